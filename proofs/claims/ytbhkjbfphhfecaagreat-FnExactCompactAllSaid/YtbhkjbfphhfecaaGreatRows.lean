/-
  No cell of these rows narrows 'for every input' (looked for: loops, veiled, ifaces, maps, wideKeys, modest, calm, conditions, laid).
  DERIVED. THE GIVEN ROWS OF THIS SEAT. 8 by the template 'for every input the law returns true; each argument reads behind the call as it read before'; 0 by the template 'total and deterministic' (their statements: YtbhkjbfphhfecaaGreatTotals.lean).
  GIVEN WITH THE SEED: the statements are not yours to turn. If you find one false, say at which input.
  Laid BY PROGRAM, IN A SANDBOX (cutbox-rows.mjs): the forced cells as the released guide's own fill.sh prints them over the translation 0a721833d3120d58… (all of the seat's roots in one cut). By AI agents, Wed Nov 11 2026. No macro, syntax, notation, axiom, sorry.
-/
import Derived.Test.YtbhkjbfphhfecaaGreatChecked
import GoSem.Claim
import GoSem.ClaimJoined
import GoSem.ClaimMapViews
import Derived.JoinedTies
import Derived.KernelRfl
namespace Go.Proofs.YtbhkjbfphhfecaaGreat
/- THE CELL 'sum', in the pinned program and in every row, IS THE sha256 OF THE DUMP (.gsa) THAT YtbhkjbfphhfecaaGreatProg.lean LOADS. Nothing in Lean hashes anything: it is a label: what it is worth is what the hold of that sum in a sandbox is worth. -/
noncomputable def Tryz.pinned : Pinned := { name := "ytbhkjbfphhfecaagreat", sum := "0a721833d3120d58d43fa1bb7d0215c5236cf6d84bd362ca290e0f1c74884ba9", checked := Tryz.checked }
namespace Rows
def none {H : Type} : Left H := { results := [], args := [] }

/-- 'laws.FnExactLookUp': WHATEVER THE INPUT: true; the input reads as it did. -/
def fnExactLookUpSpec : ChangeSpec := { name := "fnExactLookUp", fn := fun _ => fun
  | [d1, d2] => { results := [.lit (.bool true)], args := [d1, d2] }
  | _ => none }
def fnExactLookUpRow : OpenClaim := { program := "ytbhkjbfphhfecaagreat", sum := "0a721833d3120d58d43fa1bb7d0215c5236cf6d84bd362ca290e0f1c74884ba9", func := "loop.example/g00039/laws.FnExactLookUp", spec := "fnExactLookUp", inPlace := ["internal/bytealg.IndexByteString"], unfollowed := true, recurses := true, apart := false }
def FnExactLookUpSaid : Prop := fnExactLookUpRow.holds Tryz.pinned (OpenSpec.ofChange fnExactLookUpSpec)

/-- ITS FALSE NEIGHBOUR: 'it returns false'. Refute it at one input. -/
def fnExactLookUpWrong : ChangeSpec := { name := "fnExactLookUp", fn := fun _ => fun
  | [d1, d2] => { results := [.lit (.bool false)], args := [d1, d2] }
  | _ => none }
def FnExactLookUpWrongFalsely : Prop := fnExactLookUpRow.holds Tryz.pinned (OpenSpec.ofChange fnExactLookUpWrong)

/-- 'laws.FnExactSelectBlock': WHATEVER THE INPUT: true; the input reads as it did. -/
def fnExactSelectBlockSpec : ChangeSpec := { name := "fnExactSelectBlock", fn := fun _ => fun
  | [d1, d2, d3, d4] => { results := [.lit (.bool true)], args := [d1, d2, d3, d4] }
  | _ => none }
def fnExactSelectBlockRow : OpenClaim := { program := "ytbhkjbfphhfecaagreat", sum := "0a721833d3120d58d43fa1bb7d0215c5236cf6d84bd362ca290e0f1c74884ba9", func := "loop.example/g00039/laws.FnExactSelectBlock", spec := "fnExactSelectBlock", inPlace := ["internal/bytealg.IndexByteString"], unfollowed := true, recurses := true, apart := false }
def FnExactSelectBlockSaid : Prop := fnExactSelectBlockRow.holds Tryz.pinned (OpenSpec.ofChange fnExactSelectBlockSpec)

/-- ITS FALSE NEIGHBOUR: 'it returns false'. Refute it at one input. -/
def fnExactSelectBlockWrong : ChangeSpec := { name := "fnExactSelectBlock", fn := fun _ => fun
  | [d1, d2, d3, d4] => { results := [.lit (.bool false)], args := [d1, d2, d3, d4] }
  | _ => none }
def FnExactSelectBlockWrongFalsely : Prop := fnExactSelectBlockRow.holds Tryz.pinned (OpenSpec.ofChange fnExactSelectBlockWrong)

/-- 'laws.FnExactDeleteIn': WHATEVER THE INPUT: true; the input reads as it did. -/
def fnExactDeleteInSpec : ChangeSpec := { name := "fnExactDeleteIn", fn := fun _ => fun
  | [d1, d2, d3, d4] => { results := [.lit (.bool true)], args := [d1, d2, d3, d4] }
  | _ => none }
def fnExactDeleteInRow : OpenClaim := { program := "ytbhkjbfphhfecaagreat", sum := "0a721833d3120d58d43fa1bb7d0215c5236cf6d84bd362ca290e0f1c74884ba9", func := "loop.example/g00039/laws.FnExactDeleteIn", spec := "fnExactDeleteIn", inPlace := ["internal/bytealg.IndexByteString"], unfollowed := true, recurses := true, apart := false }
def FnExactDeleteInSaid : Prop := fnExactDeleteInRow.holds Tryz.pinned (OpenSpec.ofChange fnExactDeleteInSpec)

/-- ITS FALSE NEIGHBOUR: 'it returns false'. Refute it at one input. -/
def fnExactDeleteInWrong : ChangeSpec := { name := "fnExactDeleteIn", fn := fun _ => fun
  | [d1, d2, d3, d4] => { results := [.lit (.bool false)], args := [d1, d2, d3, d4] }
  | _ => none }
def FnExactDeleteInWrongFalsely : Prop := fnExactDeleteInRow.holds Tryz.pinned (OpenSpec.ofChange fnExactDeleteInWrong)

/-- 'laws.FnExactSelectBlocks': WHATEVER THE INPUT: true; the input reads as it did. -/
def fnExactSelectBlocksSpec : ChangeSpec := { name := "fnExactSelectBlocks", fn := fun _ => fun
  | [d1, d2, d3, d4, d5] => { results := [.lit (.bool true)], args := [d1, d2, d3, d4, d5] }
  | _ => none }
def fnExactSelectBlocksRow : OpenClaim := { program := "ytbhkjbfphhfecaagreat", sum := "0a721833d3120d58d43fa1bb7d0215c5236cf6d84bd362ca290e0f1c74884ba9", func := "loop.example/g00039/laws.FnExactSelectBlocks", spec := "fnExactSelectBlocks", inPlace := ["internal/bytealg.IndexByteString", "slices.overlaps[loop.example/g00039/impl.Series]"], unfollowed := true, recurses := true, apart := false }
def FnExactSelectBlocksSaid : Prop := fnExactSelectBlocksRow.holds Tryz.pinned (OpenSpec.ofChange fnExactSelectBlocksSpec)

/-- ITS FALSE NEIGHBOUR: 'it returns false'. Refute it at one input. -/
def fnExactSelectBlocksWrong : ChangeSpec := { name := "fnExactSelectBlocks", fn := fun _ => fun
  | [d1, d2, d3, d4, d5] => { results := [.lit (.bool false)], args := [d1, d2, d3, d4, d5] }
  | _ => none }
def FnExactSelectBlocksWrongFalsely : Prop := fnExactSelectBlocksRow.holds Tryz.pinned (OpenSpec.ofChange fnExactSelectBlocksWrong)

/-- 'laws.FnExactDeleteBlocks': WHATEVER THE INPUT: true; the input reads as it did. -/
def fnExactDeleteBlocksSpec : ChangeSpec := { name := "fnExactDeleteBlocks", fn := fun _ => fun
  | [d1, d2, d3, d4, d5] => { results := [.lit (.bool true)], args := [d1, d2, d3, d4, d5] }
  | _ => none }
def fnExactDeleteBlocksRow : OpenClaim := { program := "ytbhkjbfphhfecaagreat", sum := "0a721833d3120d58d43fa1bb7d0215c5236cf6d84bd362ca290e0f1c74884ba9", func := "loop.example/g00039/laws.FnExactDeleteBlocks", spec := "fnExactDeleteBlocks", inPlace := ["internal/bytealg.IndexByteString"], unfollowed := true, recurses := true, apart := false }
def FnExactDeleteBlocksSaid : Prop := fnExactDeleteBlocksRow.holds Tryz.pinned (OpenSpec.ofChange fnExactDeleteBlocksSpec)

/-- ITS FALSE NEIGHBOUR: 'it returns false'. Refute it at one input. -/
def fnExactDeleteBlocksWrong : ChangeSpec := { name := "fnExactDeleteBlocks", fn := fun _ => fun
  | [d1, d2, d3, d4, d5] => { results := [.lit (.bool false)], args := [d1, d2, d3, d4, d5] }
  | _ => none }
def FnExactDeleteBlocksWrongFalsely : Prop := fnExactDeleteBlocksRow.holds Tryz.pinned (OpenSpec.ofChange fnExactDeleteBlocksWrong)

/-- 'laws.FnExactPlanOf': WHATEVER THE INPUT: true; the input reads as it did. -/
def fnExactPlanOfSpec : ChangeSpec := { name := "fnExactPlanOf", fn := fun _ => fun
  | [d1, d2] => { results := [.lit (.bool true)], args := [d1, d2] }
  | _ => none }
def fnExactPlanOfRow : OpenClaim := { program := "ytbhkjbfphhfecaagreat", sum := "0a721833d3120d58d43fa1bb7d0215c5236cf6d84bd362ca290e0f1c74884ba9", func := "loop.example/g00039/laws.FnExactPlanOf", spec := "fnExactPlanOf", inPlace := ["slices.overlaps[loop.example/g00039/impl.Series]"], unfollowed := true, recurses := true, apart := false }
def FnExactPlanOfSaid : Prop := fnExactPlanOfRow.holds Tryz.pinned (OpenSpec.ofChange fnExactPlanOfSpec)

/-- ITS FALSE NEIGHBOUR: 'it returns false'. Refute it at one input. -/
def fnExactPlanOfWrong : ChangeSpec := { name := "fnExactPlanOf", fn := fun _ => fun
  | [d1, d2] => { results := [.lit (.bool false)], args := [d1, d2] }
  | _ => none }
def FnExactPlanOfWrongFalsely : Prop := fnExactPlanOfRow.holds Tryz.pinned (OpenSpec.ofChange fnExactPlanOfWrong)

/-- 'laws.FnExactCompactAll': WHATEVER THE INPUT: true; the input reads as it did. -/
def fnExactCompactAllSpec : ChangeSpec := { name := "fnExactCompactAll", fn := fun _ => fun
  | [d1, d2] => { results := [.lit (.bool true)], args := [d1, d2] }
  | _ => none }
def fnExactCompactAllRow : OpenClaim := { program := "ytbhkjbfphhfecaagreat", sum := "0a721833d3120d58d43fa1bb7d0215c5236cf6d84bd362ca290e0f1c74884ba9", func := "loop.example/g00039/laws.FnExactCompactAll", spec := "fnExactCompactAll", inPlace := ["slices.overlaps[loop.example/g00039/impl.Series]", "slices.overlaps[loop.example/g00039/impl.Block]"], unfollowed := true, recurses := true, apart := false }
def FnExactCompactAllSaid : Prop := fnExactCompactAllRow.holds Tryz.pinned (OpenSpec.ofChange fnExactCompactAllSpec)

/-- ITS FALSE NEIGHBOUR: 'it returns false'. Refute it at one input. -/
def fnExactCompactAllWrong : ChangeSpec := { name := "fnExactCompactAll", fn := fun _ => fun
  | [d1, d2] => { results := [.lit (.bool false)], args := [d1, d2] }
  | _ => none }
def FnExactCompactAllWrongFalsely : Prop := fnExactCompactAllRow.holds Tryz.pinned (OpenSpec.ofChange fnExactCompactAllWrong)

/-- 'laws.FnExactCutHead': WHATEVER THE INPUT: true; the input reads as it did. -/
def fnExactCutHeadSpec : ChangeSpec := { name := "fnExactCutHead", fn := fun _ => fun
  | [d1, d2, d3] => { results := [.lit (.bool true)], args := [d1, d2, d3] }
  | _ => none }
def fnExactCutHeadRow : OpenClaim := { program := "ytbhkjbfphhfecaagreat", sum := "0a721833d3120d58d43fa1bb7d0215c5236cf6d84bd362ca290e0f1c74884ba9", func := "loop.example/g00039/laws.FnExactCutHead", spec := "fnExactCutHead", inPlace := ["internal/bytealg.IndexByteString"], unfollowed := true, recurses := true, apart := false }
def FnExactCutHeadSaid : Prop := fnExactCutHeadRow.holds Tryz.pinned (OpenSpec.ofChange fnExactCutHeadSpec)

/-- ITS FALSE NEIGHBOUR: 'it returns false'. Refute it at one input. -/
def fnExactCutHeadWrong : ChangeSpec := { name := "fnExactCutHead", fn := fun _ => fun
  | [d1, d2, d3] => { results := [.lit (.bool false)], args := [d1, d2, d3] }
  | _ => none }
def FnExactCutHeadWrongFalsely : Prop := fnExactCutHeadRow.holds Tryz.pinned (OpenSpec.ofChange fnExactCutHeadWrong)

/- THE SECOND FORM. 'bulk': how many values and letters a reading holds, each counted each time it is reached (what is shared counts as often as it is met; a slice's spare places count too). A statement '..UptoSaid' is the law's where the arguments, and the package variables that the reading takes, are together of bulk at most 1048576: NARROWER than '..Said'. Prove '..Said' where nothing that the law and all that it calls make is longer than what came in: it says more and counts as full. Else prove '..UptoSaid'. A law counts once. -/
mutual
def uptoBulk {H : Type} : DataW H → Nat
  | .lit (.string bytes) => bytes.length + 1
  | .lit _ => 1
  | .nil => 1
  | .ptr d => uptoBulk d + 1
  | .slice elems spare => uptoBulkAll elems + uptoBulkAll spare + 1
  | .agg parts => uptoBulkAll parts + 1
  | .iface _ d => uptoBulk d + 1
  | .map entries => uptoBulkEntries entries + 1
  | .held _ => 1
def uptoBulkAll {H : Type} : List (DataW H) → Nat
  | [] => 0
  | d :: r => uptoBulk d + uptoBulkAll r
def uptoBulkEntries {H : Type} : List (Lit × DataW H) → Nat
  | [] => 0
  | x :: r => uptoBulkEntry x + uptoBulkEntries r
def uptoBulkEntry {H : Type} : Lit × DataW H → Nat
  | (.string bytes, d) => bytes.length + uptoBulk d + 1
  | (_, d) => uptoBulk d + 1
 end
def uptoSmall : (H : Type) → List (DataW H) → Bool := fun _ ds => decide (uptoBulkAll ds ≤ 1048576)
def OpenSpec.upto (s : _root_.Go.ChangeSpec) : _root_.Go.OpenSpec := { _root_.Go.OpenSpec.ofChange s with cond := some uptoSmall }

/-- 'laws.FnExactLookUp', WHERE WHAT IT READS IS OF BULK AT MOST 1048576: true; the input reads as it did. -/
def fnExactLookUpUptoRow : OpenClaim := { program := "ytbhkjbfphhfecaagreat", sum := "0a721833d3120d58d43fa1bb7d0215c5236cf6d84bd362ca290e0f1c74884ba9", func := "loop.example/g00039/laws.FnExactLookUp", spec := "fnExactLookUp", inPlace := ["internal/bytealg.IndexByteString"], unfollowed := true, recurses := true, apart := false, narrowed := true }
def FnExactLookUpUptoSaid : Prop := fnExactLookUpUptoRow.holds Tryz.pinned (OpenSpec.upto fnExactLookUpSpec)

/-- 'laws.FnExactSelectBlock', WHERE WHAT IT READS IS OF BULK AT MOST 1048576: true; the input reads as it did. -/
def fnExactSelectBlockUptoRow : OpenClaim := { program := "ytbhkjbfphhfecaagreat", sum := "0a721833d3120d58d43fa1bb7d0215c5236cf6d84bd362ca290e0f1c74884ba9", func := "loop.example/g00039/laws.FnExactSelectBlock", spec := "fnExactSelectBlock", inPlace := ["internal/bytealg.IndexByteString"], unfollowed := true, recurses := true, apart := false, narrowed := true }
def FnExactSelectBlockUptoSaid : Prop := fnExactSelectBlockUptoRow.holds Tryz.pinned (OpenSpec.upto fnExactSelectBlockSpec)

/-- 'laws.FnExactDeleteIn', WHERE WHAT IT READS IS OF BULK AT MOST 1048576: true; the input reads as it did. -/
def fnExactDeleteInUptoRow : OpenClaim := { program := "ytbhkjbfphhfecaagreat", sum := "0a721833d3120d58d43fa1bb7d0215c5236cf6d84bd362ca290e0f1c74884ba9", func := "loop.example/g00039/laws.FnExactDeleteIn", spec := "fnExactDeleteIn", inPlace := ["internal/bytealg.IndexByteString"], unfollowed := true, recurses := true, apart := false, narrowed := true }
def FnExactDeleteInUptoSaid : Prop := fnExactDeleteInUptoRow.holds Tryz.pinned (OpenSpec.upto fnExactDeleteInSpec)

/-- 'laws.FnExactSelectBlocks', WHERE WHAT IT READS IS OF BULK AT MOST 1048576: true; the input reads as it did. -/
def fnExactSelectBlocksUptoRow : OpenClaim := { program := "ytbhkjbfphhfecaagreat", sum := "0a721833d3120d58d43fa1bb7d0215c5236cf6d84bd362ca290e0f1c74884ba9", func := "loop.example/g00039/laws.FnExactSelectBlocks", spec := "fnExactSelectBlocks", inPlace := ["internal/bytealg.IndexByteString", "slices.overlaps[loop.example/g00039/impl.Series]"], unfollowed := true, recurses := true, apart := false, narrowed := true }
def FnExactSelectBlocksUptoSaid : Prop := fnExactSelectBlocksUptoRow.holds Tryz.pinned (OpenSpec.upto fnExactSelectBlocksSpec)

/-- 'laws.FnExactDeleteBlocks', WHERE WHAT IT READS IS OF BULK AT MOST 1048576: true; the input reads as it did. -/
def fnExactDeleteBlocksUptoRow : OpenClaim := { program := "ytbhkjbfphhfecaagreat", sum := "0a721833d3120d58d43fa1bb7d0215c5236cf6d84bd362ca290e0f1c74884ba9", func := "loop.example/g00039/laws.FnExactDeleteBlocks", spec := "fnExactDeleteBlocks", inPlace := ["internal/bytealg.IndexByteString"], unfollowed := true, recurses := true, apart := false, narrowed := true }
def FnExactDeleteBlocksUptoSaid : Prop := fnExactDeleteBlocksUptoRow.holds Tryz.pinned (OpenSpec.upto fnExactDeleteBlocksSpec)

/-- 'laws.FnExactPlanOf', WHERE WHAT IT READS IS OF BULK AT MOST 1048576: true; the input reads as it did. -/
def fnExactPlanOfUptoRow : OpenClaim := { program := "ytbhkjbfphhfecaagreat", sum := "0a721833d3120d58d43fa1bb7d0215c5236cf6d84bd362ca290e0f1c74884ba9", func := "loop.example/g00039/laws.FnExactPlanOf", spec := "fnExactPlanOf", inPlace := ["slices.overlaps[loop.example/g00039/impl.Series]"], unfollowed := true, recurses := true, apart := false, narrowed := true }
def FnExactPlanOfUptoSaid : Prop := fnExactPlanOfUptoRow.holds Tryz.pinned (OpenSpec.upto fnExactPlanOfSpec)

/-- 'laws.FnExactCompactAll', WHERE WHAT IT READS IS OF BULK AT MOST 1048576: true; the input reads as it did. -/
def fnExactCompactAllUptoRow : OpenClaim := { program := "ytbhkjbfphhfecaagreat", sum := "0a721833d3120d58d43fa1bb7d0215c5236cf6d84bd362ca290e0f1c74884ba9", func := "loop.example/g00039/laws.FnExactCompactAll", spec := "fnExactCompactAll", inPlace := ["slices.overlaps[loop.example/g00039/impl.Series]", "slices.overlaps[loop.example/g00039/impl.Block]"], unfollowed := true, recurses := true, apart := false, narrowed := true }
def FnExactCompactAllUptoSaid : Prop := fnExactCompactAllUptoRow.holds Tryz.pinned (OpenSpec.upto fnExactCompactAllSpec)

/-- 'laws.FnExactCutHead', WHERE WHAT IT READS IS OF BULK AT MOST 1048576: true; the input reads as it did. -/
def fnExactCutHeadUptoRow : OpenClaim := { program := "ytbhkjbfphhfecaagreat", sum := "0a721833d3120d58d43fa1bb7d0215c5236cf6d84bd362ca290e0f1c74884ba9", func := "loop.example/g00039/laws.FnExactCutHead", spec := "fnExactCutHead", inPlace := ["internal/bytealg.IndexByteString"], unfollowed := true, recurses := true, apart := false, narrowed := true }
def FnExactCutHeadUptoSaid : Prop := fnExactCutHeadUptoRow.holds Tryz.pinned (OpenSpec.upto fnExactCutHeadSpec)

end Rows
end Go.Proofs.YtbhkjbfphhfecaaGreat
