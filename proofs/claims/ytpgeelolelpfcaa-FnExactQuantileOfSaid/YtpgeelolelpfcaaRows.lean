/-
  No cell of these rows narrows 'for every input' (looked for: loops, veiled, ifaces, maps, wideKeys, modest, calm, conditions, laid).
  DERIVED. THE GIVEN ROWS OF THIS SEAT. 11 by the template 'for every input the law returns true; each argument reads behind the call as it read before'; 0 by the template 'total and deterministic' (their statements: YtpgeelolelpfcaaTotals.lean).
  GIVEN WITH THE SEED: the statements are not yours to turn. If you find one false, say at which input.
  Laid BY PROGRAM, IN A SANDBOX (cutbox-rows.mjs): the forced cells as the released guide's own fill.sh prints them over the translation fc95d08889e7fded… (all of the seat's roots in one cut). By AI agents, Wed Nov 11 2026. No macro, syntax, notation, axiom, sorry.
-/
import Derived.Test.YtpgeelolelpfcaaChecked
import GoSem.Claim
import GoSem.ClaimJoined
import GoSem.ClaimMapViews
import Derived.JoinedTies
import Derived.KernelRfl
namespace Go.Proofs.Ytpgeelolelpfcaa
/- THE CELL 'sum', in the pinned program and in every row, IS THE sha256 OF THE DUMP (.gsa) THAT YtpgeelolelpfcaaProg.lean LOADS. Nothing in Lean hashes anything: it is a label: what it is worth is what the hold of that sum in a sandbox is worth. -/
noncomputable def Try.pinned : Pinned := { name := "ytpgeelolelpfcaa", sum := "fc95d08889e7fded066f38374db0852bd300cf7aa13415a441ec5b3bd040e085", checked := Try.checked }
namespace Rows
def none {H : Type} : Left H := { results := [], args := [] }

/-- 'laws.FnExactGoodRing': WHATEVER THE INPUT: true; the input reads as it did. -/
def fnExactGoodRingSpec : ChangeSpec := { name := "fnExactGoodRing", fn := fun _ => fun
  | [d] => { results := [.lit (.bool true)], args := [d] }
  | _ => none }
def fnExactGoodRingRow : OpenClaim := { program := "ytpgeelolelpfcaa", sum := "fc95d08889e7fded066f38374db0852bd300cf7aa13415a441ec5b3bd040e085", func := "loop.example/g00039/laws.FnExactGoodRing", spec := "fnExactGoodRing", apart := false }
def FnExactGoodRingSaid : Prop := fnExactGoodRingRow.holds Try.pinned (OpenSpec.ofChange fnExactGoodRingSpec)

/-- ITS FALSE NEIGHBOUR: 'it returns false'. Refute it at one input. -/
def fnExactGoodRingWrong : ChangeSpec := { name := "fnExactGoodRing", fn := fun _ => fun
  | [d] => { results := [.lit (.bool false)], args := [d] }
  | _ => none }
def FnExactGoodRingWrongFalsely : Prop := fnExactGoodRingRow.holds Try.pinned (OpenSpec.ofChange fnExactGoodRingWrong)

/-- 'laws.FnPatterns': WHATEVER THE INPUT: true; the input reads as it did. -/
def fnPatternsSpec : ChangeSpec := { name := "fnPatterns", fn := fun _ => fun
  | [d] => { results := [.lit (.bool true)], args := [d] }
  | _ => none }
def fnPatternsRow : OpenClaim := { program := "ytpgeelolelpfcaa", sum := "fc95d08889e7fded066f38374db0852bd300cf7aa13415a441ec5b3bd040e085", func := "loop.example/g00039/laws.FnPatterns", spec := "fnPatterns", inPlace := ["internal/bytealg.IndexByteString"], unfollowed := true, recurses := true, apart := false }
def FnPatternsSaid : Prop := fnPatternsRow.holds Try.pinned (OpenSpec.ofChange fnPatternsSpec)

/-- ITS FALSE NEIGHBOUR: 'it returns false'. Refute it at one input. -/
def fnPatternsWrong : ChangeSpec := { name := "fnPatterns", fn := fun _ => fun
  | [d] => { results := [.lit (.bool false)], args := [d] }
  | _ => none }
def FnPatternsWrongFalsely : Prop := fnPatternsRow.holds Try.pinned (OpenSpec.ofChange fnPatternsWrong)

/-- 'laws.FnExactPlaceOf': WHATEVER THE INPUT: true; the input reads as it did. -/
def fnExactPlaceOfSpec : ChangeSpec := { name := "fnExactPlaceOf", fn := fun _ => fun
  | [d] => { results := [.lit (.bool true)], args := [d] }
  | _ => none }
def fnExactPlaceOfRow : OpenClaim := { program := "ytpgeelolelpfcaa", sum := "fc95d08889e7fded066f38374db0852bd300cf7aa13415a441ec5b3bd040e085", func := "loop.example/g00039/laws.FnExactPlaceOf", spec := "fnExactPlaceOf", inPlace := ["internal/abi.NoEscape", "internal/bytealg.MakeNoZero"], apart := false }
def FnExactPlaceOfSaid : Prop := fnExactPlaceOfRow.holds Try.pinned (OpenSpec.ofChange fnExactPlaceOfSpec)

/-- ITS FALSE NEIGHBOUR: 'it returns false'. Refute it at one input. -/
def fnExactPlaceOfWrong : ChangeSpec := { name := "fnExactPlaceOf", fn := fun _ => fun
  | [d] => { results := [.lit (.bool false)], args := [d] }
  | _ => none }
def FnExactPlaceOfWrongFalsely : Prop := fnExactPlaceOfRow.holds Try.pinned (OpenSpec.ofChange fnExactPlaceOfWrong)

/-- 'laws.FnDown': WHATEVER THE INPUT: true; the input reads as it did. -/
def fnDownSpec : ChangeSpec := { name := "fnDown", fn := fun _ => fun
  | [d1, d2] => { results := [.lit (.bool true)], args := [d1, d2] }
  | _ => none }
def fnDownRow : OpenClaim := { program := "ytpgeelolelpfcaa", sum := "fc95d08889e7fded066f38374db0852bd300cf7aa13415a441ec5b3bd040e085", func := "loop.example/g00039/laws.FnDown", spec := "fnDown", unfollowed := true, recurses := true, apart := false }
def FnDownSaid : Prop := fnDownRow.holds Try.pinned (OpenSpec.ofChange fnDownSpec)

/-- ITS FALSE NEIGHBOUR: 'it returns false'. Refute it at one input. -/
def fnDownWrong : ChangeSpec := { name := "fnDown", fn := fun _ => fun
  | [d1, d2] => { results := [.lit (.bool false)], args := [d1, d2] }
  | _ => none }
def FnDownWrongFalsely : Prop := fnDownRow.holds Try.pinned (OpenSpec.ofChange fnDownWrong)

/-- 'laws.FnRemote': WHATEVER THE INPUT: true; the input reads as it did. -/
def fnRemoteSpec : ChangeSpec := { name := "fnRemote", fn := fun _ => fun
  | [d] => { results := [.lit (.bool true)], args := [d] }
  | _ => none }
def fnRemoteRow : OpenClaim := { program := "ytpgeelolelpfcaa", sum := "fc95d08889e7fded066f38374db0852bd300cf7aa13415a441ec5b3bd040e085", func := "loop.example/g00039/laws.FnRemote", spec := "fnRemote", unfollowed := true, recurses := true, apart := false }
def FnRemoteSaid : Prop := fnRemoteRow.holds Try.pinned (OpenSpec.ofChange fnRemoteSpec)

/-- ITS FALSE NEIGHBOUR: 'it returns false'. Refute it at one input. -/
def fnRemoteWrong : ChangeSpec := { name := "fnRemote", fn := fun _ => fun
  | [d] => { results := [.lit (.bool false)], args := [d] }
  | _ => none }
def FnRemoteWrongFalsely : Prop := fnRemoteRow.holds Try.pinned (OpenSpec.ofChange fnRemoteWrong)

/-- 'laws.FnExactQuantileOf': WHATEVER THE INPUT: true; the input reads as it did. -/
def fnExactQuantileOfSpec : ChangeSpec := { name := "fnExactQuantileOf", fn := fun _ => fun
  | [d1, d2] => { results := [.lit (.bool true)], args := [d1, d2] }
  | _ => none }
def fnExactQuantileOfRow : OpenClaim := { program := "ytpgeelolelpfcaa", sum := "fc95d08889e7fded066f38374db0852bd300cf7aa13415a441ec5b3bd040e085", func := "loop.example/g00039/laws.FnExactQuantileOf", spec := "fnExactQuantileOf", recurses := true, apart := false }
def FnExactQuantileOfSaid : Prop := fnExactQuantileOfRow.holds Try.pinned (OpenSpec.ofChange fnExactQuantileOfSpec)

/-- ITS FALSE NEIGHBOUR: 'it returns false'. Refute it at one input. -/
def fnExactQuantileOfWrong : ChangeSpec := { name := "fnExactQuantileOf", fn := fun _ => fun
  | [d1, d2] => { results := [.lit (.bool false)], args := [d1, d2] }
  | _ => none }
def FnExactQuantileOfWrongFalsely : Prop := fnExactQuantileOfRow.holds Try.pinned (OpenSpec.ofChange fnExactQuantileOfWrong)

/-- 'laws.FnLabels': WHATEVER THE INPUT: true; the input reads as it did. -/
def fnLabelsSpec : ChangeSpec := { name := "fnLabels", fn := fun _ => fun
  | [d] => { results := [.lit (.bool true)], args := [d] }
  | _ => none }
def fnLabelsRow : OpenClaim := { program := "ytpgeelolelpfcaa", sum := "fc95d08889e7fded066f38374db0852bd300cf7aa13415a441ec5b3bd040e085", func := "loop.example/g00039/laws.FnLabels", spec := "fnLabels", inPlace := ["internal/abi.NoEscape", "internal/bytealg.MakeNoZero"], apart := false }
def FnLabelsSaid : Prop := fnLabelsRow.holds Try.pinned (OpenSpec.ofChange fnLabelsSpec)

/-- ITS FALSE NEIGHBOUR: 'it returns false'. Refute it at one input. -/
def fnLabelsWrong : ChangeSpec := { name := "fnLabels", fn := fun _ => fun
  | [d] => { results := [.lit (.bool false)], args := [d] }
  | _ => none }
def FnLabelsWrongFalsely : Prop := fnLabelsRow.holds Try.pinned (OpenSpec.ofChange fnLabelsWrong)

/-- 'laws.FnExactSplitPuts': WHATEVER THE INPUT: true; the input reads as it did. -/
def fnExactSplitPutsSpec : ChangeSpec := { name := "fnExactSplitPuts", fn := fun _ => fun
  | [d1, d2] => { results := [.lit (.bool true)], args := [d1, d2] }
  | _ => none }
def fnExactSplitPutsRow : OpenClaim := { program := "ytpgeelolelpfcaa", sum := "fc95d08889e7fded066f38374db0852bd300cf7aa13415a441ec5b3bd040e085", func := "loop.example/g00039/laws.FnExactSplitPuts", spec := "fnExactSplitPuts", inPlace := ["internal/abi.NoEscape", "internal/bytealg.MakeNoZero"], unfollowed := true, recurses := true, apart := false }
def FnExactSplitPutsSaid : Prop := fnExactSplitPutsRow.holds Try.pinned (OpenSpec.ofChange fnExactSplitPutsSpec)

/-- ITS FALSE NEIGHBOUR: 'it returns false'. Refute it at one input. -/
def fnExactSplitPutsWrong : ChangeSpec := { name := "fnExactSplitPuts", fn := fun _ => fun
  | [d1, d2] => { results := [.lit (.bool false)], args := [d1, d2] }
  | _ => none }
def FnExactSplitPutsWrongFalsely : Prop := fnExactSplitPutsRow.holds Try.pinned (OpenSpec.ofChange fnExactSplitPutsWrong)

/-- 'laws.FnExactRunRemote': WHATEVER THE INPUT: true; the input reads as it did. -/
def fnExactRunRemoteSpec : ChangeSpec := { name := "fnExactRunRemote", fn := fun _ => fun
  | [d1, d2, d3, d4] => { results := [.lit (.bool true)], args := [d1, d2, d3, d4] }
  | _ => none }
def fnExactRunRemoteRow : OpenClaim := { program := "ytpgeelolelpfcaa", sum := "fc95d08889e7fded066f38374db0852bd300cf7aa13415a441ec5b3bd040e085", func := "loop.example/g00039/laws.FnExactRunRemote", spec := "fnExactRunRemote", unfollowed := true, recurses := true, apart := false }
def FnExactRunRemoteSaid : Prop := fnExactRunRemoteRow.holds Try.pinned (OpenSpec.ofChange fnExactRunRemoteSpec)

/-- ITS FALSE NEIGHBOUR: 'it returns false'. Refute it at one input. -/
def fnExactRunRemoteWrong : ChangeSpec := { name := "fnExactRunRemote", fn := fun _ => fun
  | [d1, d2, d3, d4] => { results := [.lit (.bool false)], args := [d1, d2, d3, d4] }
  | _ => none }
def FnExactRunRemoteWrongFalsely : Prop := fnExactRunRemoteRow.holds Try.pinned (OpenSpec.ofChange fnExactRunRemoteWrong)

/-- 'laws.FnExactGoodCluster': WHATEVER THE INPUT: true; the input reads as it did. -/
def fnExactGoodClusterSpec : ChangeSpec := { name := "fnExactGoodCluster", fn := fun _ => fun
  | [d] => { results := [.lit (.bool true)], args := [d] }
  | _ => none }
def fnExactGoodClusterRow : OpenClaim := { program := "ytpgeelolelpfcaa", sum := "fc95d08889e7fded066f38374db0852bd300cf7aa13415a441ec5b3bd040e085", func := "loop.example/g00039/laws.FnExactGoodCluster", spec := "fnExactGoodCluster", unfollowed := true, recurses := true, apart := false }
def FnExactGoodClusterSaid : Prop := fnExactGoodClusterRow.holds Try.pinned (OpenSpec.ofChange fnExactGoodClusterSpec)

/-- ITS FALSE NEIGHBOUR: 'it returns false'. Refute it at one input. -/
def fnExactGoodClusterWrong : ChangeSpec := { name := "fnExactGoodCluster", fn := fun _ => fun
  | [d] => { results := [.lit (.bool false)], args := [d] }
  | _ => none }
def FnExactGoodClusterWrongFalsely : Prop := fnExactGoodClusterRow.holds Try.pinned (OpenSpec.ofChange fnExactGoodClusterWrong)

/-- 'laws.FnExactGoodShelf': WHATEVER THE INPUT: true; the input reads as it did. -/
def fnExactGoodShelfSpec : ChangeSpec := { name := "fnExactGoodShelf", fn := fun _ => fun
  | [d1, d2] => { results := [.lit (.bool true)], args := [d1, d2] }
  | _ => none }
def fnExactGoodShelfRow : OpenClaim := { program := "ytpgeelolelpfcaa", sum := "fc95d08889e7fded066f38374db0852bd300cf7aa13415a441ec5b3bd040e085", func := "loop.example/g00039/laws.FnExactGoodShelf", spec := "fnExactGoodShelf", unfollowed := true, recurses := true, apart := false }
def FnExactGoodShelfSaid : Prop := fnExactGoodShelfRow.holds Try.pinned (OpenSpec.ofChange fnExactGoodShelfSpec)

/-- ITS FALSE NEIGHBOUR: 'it returns false'. Refute it at one input. -/
def fnExactGoodShelfWrong : ChangeSpec := { name := "fnExactGoodShelf", fn := fun _ => fun
  | [d1, d2] => { results := [.lit (.bool false)], args := [d1, d2] }
  | _ => none }
def FnExactGoodShelfWrongFalsely : Prop := fnExactGoodShelfRow.holds Try.pinned (OpenSpec.ofChange fnExactGoodShelfWrong)

/- THE SECOND FORM. 'bulk': how many values and letters a reading holds, each counted each time it is reached (what is shared counts as often as it is met; a slice's spare places count too). A statement '..UptoSaid' is the law's where the arguments, and the package variables that the reading takes, are together of bulk at most 1048576: NARROWER than '..Said'. Prove '..Said' where nothing that the law and all that it calls make is longer than what came in: it says more and counts as full. Else prove '..UptoSaid'. A law counts once. -/
mutual
def uptoBulk {H : Type} : DataW H → Nat
  | .lit (.string bytes) => bytes.length + 1
  | .lit _ => 1
  | .nil => 1
  | .ptr d => uptoBulk d + 1
  | .slice elems spare => uptoBulkAll elems + uptoBulkAll spare + 1
  | .agg parts => uptoBulkAll parts + 1
  | .iface _ d => uptoBulk d + 1
  | .map entries => uptoBulkEntries entries + 1
  | .held _ => 1
def uptoBulkAll {H : Type} : List (DataW H) → Nat
  | [] => 0
  | d :: r => uptoBulk d + uptoBulkAll r
def uptoBulkEntries {H : Type} : List (Lit × DataW H) → Nat
  | [] => 0
  | x :: r => uptoBulkEntry x + uptoBulkEntries r
def uptoBulkEntry {H : Type} : Lit × DataW H → Nat
  | (.string bytes, d) => bytes.length + uptoBulk d + 1
  | (_, d) => uptoBulk d + 1
 end
def uptoSmall : (H : Type) → List (DataW H) → Bool := fun _ ds => decide (uptoBulkAll ds ≤ 1048576)
def OpenSpec.upto (s : _root_.Go.ChangeSpec) : _root_.Go.OpenSpec := { _root_.Go.OpenSpec.ofChange s with cond := some uptoSmall }

/-- 'laws.FnExactGoodRing', WHERE WHAT IT READS IS OF BULK AT MOST 1048576: true; the input reads as it did. -/
def fnExactGoodRingUptoRow : OpenClaim := { program := "ytpgeelolelpfcaa", sum := "fc95d08889e7fded066f38374db0852bd300cf7aa13415a441ec5b3bd040e085", func := "loop.example/g00039/laws.FnExactGoodRing", spec := "fnExactGoodRing", apart := false, narrowed := true }
def FnExactGoodRingUptoSaid : Prop := fnExactGoodRingUptoRow.holds Try.pinned (OpenSpec.upto fnExactGoodRingSpec)

/-- 'laws.FnPatterns', WHERE WHAT IT READS IS OF BULK AT MOST 1048576: true; the input reads as it did. -/
def fnPatternsUptoRow : OpenClaim := { program := "ytpgeelolelpfcaa", sum := "fc95d08889e7fded066f38374db0852bd300cf7aa13415a441ec5b3bd040e085", func := "loop.example/g00039/laws.FnPatterns", spec := "fnPatterns", inPlace := ["internal/bytealg.IndexByteString"], unfollowed := true, recurses := true, apart := false, narrowed := true }
def FnPatternsUptoSaid : Prop := fnPatternsUptoRow.holds Try.pinned (OpenSpec.upto fnPatternsSpec)

/-- 'laws.FnExactPlaceOf', WHERE WHAT IT READS IS OF BULK AT MOST 1048576: true; the input reads as it did. -/
def fnExactPlaceOfUptoRow : OpenClaim := { program := "ytpgeelolelpfcaa", sum := "fc95d08889e7fded066f38374db0852bd300cf7aa13415a441ec5b3bd040e085", func := "loop.example/g00039/laws.FnExactPlaceOf", spec := "fnExactPlaceOf", inPlace := ["internal/abi.NoEscape", "internal/bytealg.MakeNoZero"], apart := false, narrowed := true }
def FnExactPlaceOfUptoSaid : Prop := fnExactPlaceOfUptoRow.holds Try.pinned (OpenSpec.upto fnExactPlaceOfSpec)

/-- 'laws.FnDown', WHERE WHAT IT READS IS OF BULK AT MOST 1048576: true; the input reads as it did. -/
def fnDownUptoRow : OpenClaim := { program := "ytpgeelolelpfcaa", sum := "fc95d08889e7fded066f38374db0852bd300cf7aa13415a441ec5b3bd040e085", func := "loop.example/g00039/laws.FnDown", spec := "fnDown", unfollowed := true, recurses := true, apart := false, narrowed := true }
def FnDownUptoSaid : Prop := fnDownUptoRow.holds Try.pinned (OpenSpec.upto fnDownSpec)

/-- 'laws.FnRemote', WHERE WHAT IT READS IS OF BULK AT MOST 1048576: true; the input reads as it did. -/
def fnRemoteUptoRow : OpenClaim := { program := "ytpgeelolelpfcaa", sum := "fc95d08889e7fded066f38374db0852bd300cf7aa13415a441ec5b3bd040e085", func := "loop.example/g00039/laws.FnRemote", spec := "fnRemote", unfollowed := true, recurses := true, apart := false, narrowed := true }
def FnRemoteUptoSaid : Prop := fnRemoteUptoRow.holds Try.pinned (OpenSpec.upto fnRemoteSpec)

/-- 'laws.FnExactQuantileOf', WHERE WHAT IT READS IS OF BULK AT MOST 1048576: true; the input reads as it did. -/
def fnExactQuantileOfUptoRow : OpenClaim := { program := "ytpgeelolelpfcaa", sum := "fc95d08889e7fded066f38374db0852bd300cf7aa13415a441ec5b3bd040e085", func := "loop.example/g00039/laws.FnExactQuantileOf", spec := "fnExactQuantileOf", recurses := true, apart := false, narrowed := true }
def FnExactQuantileOfUptoSaid : Prop := fnExactQuantileOfUptoRow.holds Try.pinned (OpenSpec.upto fnExactQuantileOfSpec)

/-- 'laws.FnLabels', WHERE WHAT IT READS IS OF BULK AT MOST 1048576: true; the input reads as it did. -/
def fnLabelsUptoRow : OpenClaim := { program := "ytpgeelolelpfcaa", sum := "fc95d08889e7fded066f38374db0852bd300cf7aa13415a441ec5b3bd040e085", func := "loop.example/g00039/laws.FnLabels", spec := "fnLabels", inPlace := ["internal/abi.NoEscape", "internal/bytealg.MakeNoZero"], apart := false, narrowed := true }
def FnLabelsUptoSaid : Prop := fnLabelsUptoRow.holds Try.pinned (OpenSpec.upto fnLabelsSpec)

/-- 'laws.FnExactSplitPuts', WHERE WHAT IT READS IS OF BULK AT MOST 1048576: true; the input reads as it did. -/
def fnExactSplitPutsUptoRow : OpenClaim := { program := "ytpgeelolelpfcaa", sum := "fc95d08889e7fded066f38374db0852bd300cf7aa13415a441ec5b3bd040e085", func := "loop.example/g00039/laws.FnExactSplitPuts", spec := "fnExactSplitPuts", inPlace := ["internal/abi.NoEscape", "internal/bytealg.MakeNoZero"], unfollowed := true, recurses := true, apart := false, narrowed := true }
def FnExactSplitPutsUptoSaid : Prop := fnExactSplitPutsUptoRow.holds Try.pinned (OpenSpec.upto fnExactSplitPutsSpec)

/-- 'laws.FnExactRunRemote', WHERE WHAT IT READS IS OF BULK AT MOST 1048576: true; the input reads as it did. -/
def fnExactRunRemoteUptoRow : OpenClaim := { program := "ytpgeelolelpfcaa", sum := "fc95d08889e7fded066f38374db0852bd300cf7aa13415a441ec5b3bd040e085", func := "loop.example/g00039/laws.FnExactRunRemote", spec := "fnExactRunRemote", unfollowed := true, recurses := true, apart := false, narrowed := true }
def FnExactRunRemoteUptoSaid : Prop := fnExactRunRemoteUptoRow.holds Try.pinned (OpenSpec.upto fnExactRunRemoteSpec)

/-- 'laws.FnExactGoodCluster', WHERE WHAT IT READS IS OF BULK AT MOST 1048576: true; the input reads as it did. -/
def fnExactGoodClusterUptoRow : OpenClaim := { program := "ytpgeelolelpfcaa", sum := "fc95d08889e7fded066f38374db0852bd300cf7aa13415a441ec5b3bd040e085", func := "loop.example/g00039/laws.FnExactGoodCluster", spec := "fnExactGoodCluster", unfollowed := true, recurses := true, apart := false, narrowed := true }
def FnExactGoodClusterUptoSaid : Prop := fnExactGoodClusterUptoRow.holds Try.pinned (OpenSpec.upto fnExactGoodClusterSpec)

/-- 'laws.FnExactGoodShelf', WHERE WHAT IT READS IS OF BULK AT MOST 1048576: true; the input reads as it did. -/
def fnExactGoodShelfUptoRow : OpenClaim := { program := "ytpgeelolelpfcaa", sum := "fc95d08889e7fded066f38374db0852bd300cf7aa13415a441ec5b3bd040e085", func := "loop.example/g00039/laws.FnExactGoodShelf", spec := "fnExactGoodShelf", unfollowed := true, recurses := true, apart := false, narrowed := true }
def FnExactGoodShelfUptoSaid : Prop := fnExactGoodShelfUptoRow.holds Try.pinned (OpenSpec.upto fnExactGoodShelfSpec)

end Rows
end Go.Proofs.Ytpgeelolelpfcaa
