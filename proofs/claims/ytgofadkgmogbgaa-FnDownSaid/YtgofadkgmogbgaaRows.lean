/-
  No cell of these rows narrows 'for every input' (looked for: loops, veiled, ifaces, maps, wideKeys, modest, calm, conditions, laid).
  DERIVED. THE GIVEN ROWS OF THIS SEAT. 7 by the template 'for every input the law returns true; each argument reads behind the call as it read before'; 0 by the template 'total and deterministic' (their statements: YtgofadkgmogbgaaTotals.lean).
  GIVEN WITH THE SEED: the statements are not yours to turn. If you find one false, say at which input.
  Laid BY PROGRAM, IN A SANDBOX (cutbox-rows.mjs): the forced cells as the released guide's own fill.sh prints them over the translation 6a3012062891e1c4… (all of the seat's roots in one cut). By AI agents, Wed Nov 11 2026. No macro, syntax, notation, axiom, sorry.
-/
import Derived.Test.YtgofadkgmogbgaaChecked
import GoSem.Claim
import GoSem.ClaimJoined
import GoSem.ClaimMapViews
import Derived.JoinedTies
import Derived.KernelRfl
namespace Go.Proofs.Ytgofadkgmogbgaa
/- THE CELL 'sum', in the pinned program and in every row, IS THE sha256 OF THE DUMP (.gsa) THAT YtgofadkgmogbgaaProg.lean LOADS. Nothing in Lean hashes anything: it is a label: what it is worth is what the hold of that sum in a sandbox is worth. -/
noncomputable def Try.pinned : Pinned := { name := "ytgofadkgmogbgaa", sum := "6a3012062891e1c4160508c60e82289be710549fe050feb9f77bfd6ab206f163", checked := Try.checked }
namespace Rows
def none {H : Type} : Left H := { results := [], args := [] }

/-- 'laws.FnPatterns': WHATEVER THE INPUT: true; the input reads as it did. -/
def fnPatternsSpec : ChangeSpec := { name := "fnPatterns", fn := fun _ => fun
  | [d] => { results := [.lit (.bool true)], args := [d] }
  | _ => none }
def fnPatternsRow : OpenClaim := { program := "ytgofadkgmogbgaa", sum := "6a3012062891e1c4160508c60e82289be710549fe050feb9f77bfd6ab206f163", func := "loop.example/g00039/laws.FnPatterns", spec := "fnPatterns", inPlace := ["internal/bytealg.IndexByteString"], unfollowed := true, recurses := true, apart := false }
def FnPatternsSaid : Prop := fnPatternsRow.holds Try.pinned (OpenSpec.ofChange fnPatternsSpec)

/-- ITS FALSE NEIGHBOUR: 'it returns false'. Refute it at one input. -/
def fnPatternsWrong : ChangeSpec := { name := "fnPatterns", fn := fun _ => fun
  | [d] => { results := [.lit (.bool false)], args := [d] }
  | _ => none }
def FnPatternsWrongFalsely : Prop := fnPatternsRow.holds Try.pinned (OpenSpec.ofChange fnPatternsWrong)

/-- 'laws.FnDown': WHATEVER THE INPUT: true; the input reads as it did. -/
def fnDownSpec : ChangeSpec := { name := "fnDown", fn := fun _ => fun
  | [d1, d2] => { results := [.lit (.bool true)], args := [d1, d2] }
  | _ => none }
def fnDownRow : OpenClaim := { program := "ytgofadkgmogbgaa", sum := "6a3012062891e1c4160508c60e82289be710549fe050feb9f77bfd6ab206f163", func := "loop.example/g00039/laws.FnDown", spec := "fnDown", unfollowed := true, recurses := true, apart := false }
def FnDownSaid : Prop := fnDownRow.holds Try.pinned (OpenSpec.ofChange fnDownSpec)

/-- ITS FALSE NEIGHBOUR: 'it returns false'. Refute it at one input. -/
def fnDownWrong : ChangeSpec := { name := "fnDown", fn := fun _ => fun
  | [d1, d2] => { results := [.lit (.bool false)], args := [d1, d2] }
  | _ => none }
def FnDownWrongFalsely : Prop := fnDownRow.holds Try.pinned (OpenSpec.ofChange fnDownWrong)

/-- 'laws.FnRemote': WHATEVER THE INPUT: true; the input reads as it did. -/
def fnRemoteSpec : ChangeSpec := { name := "fnRemote", fn := fun _ => fun
  | [d] => { results := [.lit (.bool true)], args := [d] }
  | _ => none }
def fnRemoteRow : OpenClaim := { program := "ytgofadkgmogbgaa", sum := "6a3012062891e1c4160508c60e82289be710549fe050feb9f77bfd6ab206f163", func := "loop.example/g00039/laws.FnRemote", spec := "fnRemote", unfollowed := true, recurses := true, apart := false }
def FnRemoteSaid : Prop := fnRemoteRow.holds Try.pinned (OpenSpec.ofChange fnRemoteSpec)

/-- ITS FALSE NEIGHBOUR: 'it returns false'. Refute it at one input. -/
def fnRemoteWrong : ChangeSpec := { name := "fnRemote", fn := fun _ => fun
  | [d] => { results := [.lit (.bool false)], args := [d] }
  | _ => none }
def FnRemoteWrongFalsely : Prop := fnRemoteRow.holds Try.pinned (OpenSpec.ofChange fnRemoteWrong)

/-- 'laws.FnLabels': WHATEVER THE INPUT: true; the input reads as it did. -/
def fnLabelsSpec : ChangeSpec := { name := "fnLabels", fn := fun _ => fun
  | [d] => { results := [.lit (.bool true)], args := [d] }
  | _ => none }
def fnLabelsRow : OpenClaim := { program := "ytgofadkgmogbgaa", sum := "6a3012062891e1c4160508c60e82289be710549fe050feb9f77bfd6ab206f163", func := "loop.example/g00039/laws.FnLabels", spec := "fnLabels", inPlace := ["internal/abi.NoEscape", "internal/bytealg.MakeNoZero"], apart := false }
def FnLabelsSaid : Prop := fnLabelsRow.holds Try.pinned (OpenSpec.ofChange fnLabelsSpec)

/-- ITS FALSE NEIGHBOUR: 'it returns false'. Refute it at one input. -/
def fnLabelsWrong : ChangeSpec := { name := "fnLabels", fn := fun _ => fun
  | [d] => { results := [.lit (.bool false)], args := [d] }
  | _ => none }
def FnLabelsWrongFalsely : Prop := fnLabelsRow.holds Try.pinned (OpenSpec.ofChange fnLabelsWrong)

/-- 'laws.FnExactSplitPuts': WHATEVER THE INPUT: true; the input reads as it did. -/
def fnExactSplitPutsSpec : ChangeSpec := { name := "fnExactSplitPuts", fn := fun _ => fun
  | [d1, d2] => { results := [.lit (.bool true)], args := [d1, d2] }
  | _ => none }
def fnExactSplitPutsRow : OpenClaim := { program := "ytgofadkgmogbgaa", sum := "6a3012062891e1c4160508c60e82289be710549fe050feb9f77bfd6ab206f163", func := "loop.example/g00039/laws.FnExactSplitPuts", spec := "fnExactSplitPuts", inPlace := ["internal/abi.NoEscape", "internal/bytealg.MakeNoZero"], unfollowed := true, recurses := true, apart := false }
def FnExactSplitPutsSaid : Prop := fnExactSplitPutsRow.holds Try.pinned (OpenSpec.ofChange fnExactSplitPutsSpec)

/-- ITS FALSE NEIGHBOUR: 'it returns false'. Refute it at one input. -/
def fnExactSplitPutsWrong : ChangeSpec := { name := "fnExactSplitPuts", fn := fun _ => fun
  | [d1, d2] => { results := [.lit (.bool false)], args := [d1, d2] }
  | _ => none }
def FnExactSplitPutsWrongFalsely : Prop := fnExactSplitPutsRow.holds Try.pinned (OpenSpec.ofChange fnExactSplitPutsWrong)

/-- 'laws.FnExactRunRemote': WHATEVER THE INPUT: true; the input reads as it did. -/
def fnExactRunRemoteSpec : ChangeSpec := { name := "fnExactRunRemote", fn := fun _ => fun
  | [d1, d2, d3, d4] => { results := [.lit (.bool true)], args := [d1, d2, d3, d4] }
  | _ => none }
def fnExactRunRemoteRow : OpenClaim := { program := "ytgofadkgmogbgaa", sum := "6a3012062891e1c4160508c60e82289be710549fe050feb9f77bfd6ab206f163", func := "loop.example/g00039/laws.FnExactRunRemote", spec := "fnExactRunRemote", unfollowed := true, recurses := true, apart := false }
def FnExactRunRemoteSaid : Prop := fnExactRunRemoteRow.holds Try.pinned (OpenSpec.ofChange fnExactRunRemoteSpec)

/-- ITS FALSE NEIGHBOUR: 'it returns false'. Refute it at one input. -/
def fnExactRunRemoteWrong : ChangeSpec := { name := "fnExactRunRemote", fn := fun _ => fun
  | [d1, d2, d3, d4] => { results := [.lit (.bool false)], args := [d1, d2, d3, d4] }
  | _ => none }
def FnExactRunRemoteWrongFalsely : Prop := fnExactRunRemoteRow.holds Try.pinned (OpenSpec.ofChange fnExactRunRemoteWrong)

/-- 'laws.FnOwners': WHATEVER THE INPUT: true; the input reads as it did. -/
def fnOwnersSpec : ChangeSpec := { name := "fnOwners", fn := fun _ => fun
  | [d1, d2] => { results := [.lit (.bool true)], args := [d1, d2] }
  | _ => none }
def fnOwnersRow : OpenClaim := { program := "ytgofadkgmogbgaa", sum := "6a3012062891e1c4160508c60e82289be710549fe050feb9f77bfd6ab206f163", func := "loop.example/g00039/laws.FnOwners", spec := "fnOwners", unfollowed := true, recurses := true, apart := false }
def FnOwnersSaid : Prop := fnOwnersRow.holds Try.pinned (OpenSpec.ofChange fnOwnersSpec)

/-- ITS FALSE NEIGHBOUR: 'it returns false'. Refute it at one input. -/
def fnOwnersWrong : ChangeSpec := { name := "fnOwners", fn := fun _ => fun
  | [d1, d2] => { results := [.lit (.bool false)], args := [d1, d2] }
  | _ => none }
def FnOwnersWrongFalsely : Prop := fnOwnersRow.holds Try.pinned (OpenSpec.ofChange fnOwnersWrong)

/- THE SECOND FORM. 'bulk': how many values and letters a reading holds, each counted each time it is reached (what is shared counts as often as it is met; a slice's spare places count too). A statement '..UptoSaid' is the law's where the arguments, and the package variables that the reading takes, are together of bulk at most 1048576: NARROWER than '..Said'. Prove '..Said' where nothing that the law and all that it calls make is longer than what came in: it says more and counts as full. Else prove '..UptoSaid'. A law counts once. -/
mutual
def uptoBulk {H : Type} : DataW H → Nat
  | .lit (.string bytes) => bytes.length + 1
  | .lit _ => 1
  | .nil => 1
  | .ptr d => uptoBulk d + 1
  | .slice elems spare => uptoBulkAll elems + uptoBulkAll spare + 1
  | .agg parts => uptoBulkAll parts + 1
  | .iface _ d => uptoBulk d + 1
  | .map entries => uptoBulkEntries entries + 1
  | .held _ => 1
def uptoBulkAll {H : Type} : List (DataW H) → Nat
  | [] => 0
  | d :: r => uptoBulk d + uptoBulkAll r
def uptoBulkEntries {H : Type} : List (Lit × DataW H) → Nat
  | [] => 0
  | x :: r => uptoBulkEntry x + uptoBulkEntries r
def uptoBulkEntry {H : Type} : Lit × DataW H → Nat
  | (.string bytes, d) => bytes.length + uptoBulk d + 1
  | (_, d) => uptoBulk d + 1
 end
def uptoSmall : (H : Type) → List (DataW H) → Bool := fun _ ds => decide (uptoBulkAll ds ≤ 1048576)
def OpenSpec.upto (s : _root_.Go.ChangeSpec) : _root_.Go.OpenSpec := { _root_.Go.OpenSpec.ofChange s with cond := some uptoSmall }

/-- 'laws.FnPatterns', WHERE WHAT IT READS IS OF BULK AT MOST 1048576: true; the input reads as it did. -/
def fnPatternsUptoRow : OpenClaim := { program := "ytgofadkgmogbgaa", sum := "6a3012062891e1c4160508c60e82289be710549fe050feb9f77bfd6ab206f163", func := "loop.example/g00039/laws.FnPatterns", spec := "fnPatterns", inPlace := ["internal/bytealg.IndexByteString"], unfollowed := true, recurses := true, apart := false, narrowed := true }
def FnPatternsUptoSaid : Prop := fnPatternsUptoRow.holds Try.pinned (OpenSpec.upto fnPatternsSpec)

/-- 'laws.FnDown', WHERE WHAT IT READS IS OF BULK AT MOST 1048576: true; the input reads as it did. -/
def fnDownUptoRow : OpenClaim := { program := "ytgofadkgmogbgaa", sum := "6a3012062891e1c4160508c60e82289be710549fe050feb9f77bfd6ab206f163", func := "loop.example/g00039/laws.FnDown", spec := "fnDown", unfollowed := true, recurses := true, apart := false, narrowed := true }
def FnDownUptoSaid : Prop := fnDownUptoRow.holds Try.pinned (OpenSpec.upto fnDownSpec)

/-- 'laws.FnRemote', WHERE WHAT IT READS IS OF BULK AT MOST 1048576: true; the input reads as it did. -/
def fnRemoteUptoRow : OpenClaim := { program := "ytgofadkgmogbgaa", sum := "6a3012062891e1c4160508c60e82289be710549fe050feb9f77bfd6ab206f163", func := "loop.example/g00039/laws.FnRemote", spec := "fnRemote", unfollowed := true, recurses := true, apart := false, narrowed := true }
def FnRemoteUptoSaid : Prop := fnRemoteUptoRow.holds Try.pinned (OpenSpec.upto fnRemoteSpec)

/-- 'laws.FnLabels', WHERE WHAT IT READS IS OF BULK AT MOST 1048576: true; the input reads as it did. -/
def fnLabelsUptoRow : OpenClaim := { program := "ytgofadkgmogbgaa", sum := "6a3012062891e1c4160508c60e82289be710549fe050feb9f77bfd6ab206f163", func := "loop.example/g00039/laws.FnLabels", spec := "fnLabels", inPlace := ["internal/abi.NoEscape", "internal/bytealg.MakeNoZero"], apart := false, narrowed := true }
def FnLabelsUptoSaid : Prop := fnLabelsUptoRow.holds Try.pinned (OpenSpec.upto fnLabelsSpec)

/-- 'laws.FnExactSplitPuts', WHERE WHAT IT READS IS OF BULK AT MOST 1048576: true; the input reads as it did. -/
def fnExactSplitPutsUptoRow : OpenClaim := { program := "ytgofadkgmogbgaa", sum := "6a3012062891e1c4160508c60e82289be710549fe050feb9f77bfd6ab206f163", func := "loop.example/g00039/laws.FnExactSplitPuts", spec := "fnExactSplitPuts", inPlace := ["internal/abi.NoEscape", "internal/bytealg.MakeNoZero"], unfollowed := true, recurses := true, apart := false, narrowed := true }
def FnExactSplitPutsUptoSaid : Prop := fnExactSplitPutsUptoRow.holds Try.pinned (OpenSpec.upto fnExactSplitPutsSpec)

/-- 'laws.FnExactRunRemote', WHERE WHAT IT READS IS OF BULK AT MOST 1048576: true; the input reads as it did. -/
def fnExactRunRemoteUptoRow : OpenClaim := { program := "ytgofadkgmogbgaa", sum := "6a3012062891e1c4160508c60e82289be710549fe050feb9f77bfd6ab206f163", func := "loop.example/g00039/laws.FnExactRunRemote", spec := "fnExactRunRemote", unfollowed := true, recurses := true, apart := false, narrowed := true }
def FnExactRunRemoteUptoSaid : Prop := fnExactRunRemoteUptoRow.holds Try.pinned (OpenSpec.upto fnExactRunRemoteSpec)

/-- 'laws.FnOwners', WHERE WHAT IT READS IS OF BULK AT MOST 1048576: true; the input reads as it did. -/
def fnOwnersUptoRow : OpenClaim := { program := "ytgofadkgmogbgaa", sum := "6a3012062891e1c4160508c60e82289be710549fe050feb9f77bfd6ab206f163", func := "loop.example/g00039/laws.FnOwners", spec := "fnOwners", unfollowed := true, recurses := true, apart := false, narrowed := true }
def FnOwnersUptoSaid : Prop := fnOwnersUptoRow.holds Try.pinned (OpenSpec.upto fnOwnersSpec)

end Rows
end Go.Proofs.Ytgofadkgmogbgaa
