/-
  No cell of these rows narrows 'for every input' (looked for: loops, veiled, ifaces, maps, wideKeys, modest, calm, conditions, laid).
  DERIVED. THE GIVEN ROWS OF THIS SEAT. 6 by the template 'for every input the law returns true; each argument reads behind the call as it read before'; 0 by the template 'total and deterministic' (their statements: YtanilephcohjkaaGreatTotals.lean).
  GIVEN WITH THE SEED: the statements are not yours to turn. If you find one false, say at which input.
  Laid BY PROGRAM, IN A SANDBOX (cutbox-rows.mjs): the forced cells as the released guide's own fill.sh prints them over the translation 52673217891603cc… (all of the seat's roots in one cut). By AI agents, Wed Nov 11 2026. No macro, syntax, notation, axiom, sorry.
-/
import Derived.Test.YtanilephcohjkaaGreatChecked
import GoSem.Claim
import GoSem.ClaimJoined
import GoSem.ClaimMapViews
import Derived.JoinedTies
import Derived.KernelRfl
namespace Go.Proofs.YtanilephcohjkaaGreat
/- THE CELL 'sum', in the pinned program and in every row, IS THE sha256 OF THE DUMP (.gsa) THAT YtanilephcohjkaaGreatProg.lean LOADS. Nothing in Lean hashes anything: it is a label: what it is worth is what the hold of that sum in a sandbox is worth. -/
noncomputable def Tryz.pinned : Pinned := { name := "ytanilephcohjkaagreat", sum := "52673217891603cc8c8aa713b4244cf55fe6d0b6a630a65ac65e4871461c40f8", checked := Tryz.checked }
namespace Rows
def none {H : Type} : Left H := { results := [], args := [] }

/-- 'laws.FnExactRepairRing': WHATEVER THE INPUT: true; the input reads as it did. -/
def fnExactRepairRingSpec : ChangeSpec := { name := "fnExactRepairRing", fn := fun _ => fun
  | [d] => { results := [.lit (.bool true)], args := [d] }
  | _ => none }
def fnExactRepairRingRow : OpenClaim := { program := "ytanilephcohjkaagreat", sum := "52673217891603cc8c8aa713b4244cf55fe6d0b6a630a65ac65e4871461c40f8", func := "loop.example/g00039/laws.FnExactRepairRing", spec := "fnExactRepairRing", inPlace := ["internal/abi.NoEscape", "internal/bytealg.MakeNoZero", "slices.overlaps[loop.example/g00039/impl.Series]"], unfollowed := true, recurses := true, apart := false }
def FnExactRepairRingSaid : Prop := fnExactRepairRingRow.holds Tryz.pinned (OpenSpec.ofChange fnExactRepairRingSpec)

/-- ITS FALSE NEIGHBOUR: 'it returns false'. Refute it at one input. -/
def fnExactRepairRingWrong : ChangeSpec := { name := "fnExactRepairRing", fn := fun _ => fun
  | [d] => { results := [.lit (.bool false)], args := [d] }
  | _ => none }
def FnExactRepairRingWrongFalsely : Prop := fnExactRepairRingRow.holds Tryz.pinned (OpenSpec.ofChange fnExactRepairRingWrong)

/-- 'laws.FnExactJoinRing': WHATEVER THE INPUT: true; the input reads as it did. -/
def fnExactJoinRingSpec : ChangeSpec := { name := "fnExactJoinRing", fn := fun _ => fun
  | [d1, d2] => { results := [.lit (.bool true)], args := [d1, d2] }
  | _ => none }
def fnExactJoinRingRow : OpenClaim := { program := "ytanilephcohjkaagreat", sum := "52673217891603cc8c8aa713b4244cf55fe6d0b6a630a65ac65e4871461c40f8", func := "loop.example/g00039/laws.FnExactJoinRing", spec := "fnExactJoinRing", inPlace := ["slices.overlaps[loop.example/g00039/impl.RingNode]", "slices.overlaps[[]loop.example/g00039/impl.Series]", "internal/abi.NoEscape", "internal/bytealg.MakeNoZero", "slices.overlaps[loop.example/g00039/impl.Series]"], unfollowed := true, recurses := true, apart := false }
def FnExactJoinRingSaid : Prop := fnExactJoinRingRow.holds Tryz.pinned (OpenSpec.ofChange fnExactJoinRingSpec)

/-- ITS FALSE NEIGHBOUR: 'it returns false'. Refute it at one input. -/
def fnExactJoinRingWrong : ChangeSpec := { name := "fnExactJoinRing", fn := fun _ => fun
  | [d1, d2] => { results := [.lit (.bool false)], args := [d1, d2] }
  | _ => none }
def FnExactJoinRingWrongFalsely : Prop := fnExactJoinRingRow.holds Tryz.pinned (OpenSpec.ofChange fnExactJoinRingWrong)

/-- 'laws.FnExactWriteRing': WHATEVER THE INPUT: true; the input reads as it did. -/
def fnExactWriteRingSpec : ChangeSpec := { name := "fnExactWriteRing", fn := fun _ => fun
  | [d1, d2] => { results := [.lit (.bool true)], args := [d1, d2] }
  | _ => none }
def fnExactWriteRingRow : OpenClaim := { program := "ytanilephcohjkaagreat", sum := "52673217891603cc8c8aa713b4244cf55fe6d0b6a630a65ac65e4871461c40f8", func := "loop.example/g00039/laws.FnExactWriteRing", spec := "fnExactWriteRing", inPlace := ["internal/abi.NoEscape", "internal/bytealg.MakeNoZero", "slices.overlaps[loop.example/g00039/impl.Series]"], unfollowed := true, recurses := true, apart := false }
def FnExactWriteRingSaid : Prop := fnExactWriteRingRow.holds Tryz.pinned (OpenSpec.ofChange fnExactWriteRingSpec)

/-- ITS FALSE NEIGHBOUR: 'it returns false'. Refute it at one input. -/
def fnExactWriteRingWrong : ChangeSpec := { name := "fnExactWriteRing", fn := fun _ => fun
  | [d1, d2] => { results := [.lit (.bool false)], args := [d1, d2] }
  | _ => none }
def FnExactWriteRingWrongFalsely : Prop := fnExactWriteRingRow.holds Tryz.pinned (OpenSpec.ofChange fnExactWriteRingWrong)

/-- 'laws.FnExactReadRing': WHATEVER THE INPUT: true; the input reads as it did. -/
def fnExactReadRingSpec : ChangeSpec := { name := "fnExactReadRing", fn := fun _ => fun
  | [d1, d2, d3, d4] => { results := [.lit (.bool true)], args := [d1, d2, d3, d4] }
  | _ => none }
def fnExactReadRingRow : OpenClaim := { program := "ytanilephcohjkaagreat", sum := "52673217891603cc8c8aa713b4244cf55fe6d0b6a630a65ac65e4871461c40f8", func := "loop.example/g00039/laws.FnExactReadRing", spec := "fnExactReadRing", inPlace := ["internal/bytealg.IndexByteString", "slices.overlaps[loop.example/g00039/impl.Series]"], unfollowed := true, recurses := true, apart := false }
def FnExactReadRingSaid : Prop := fnExactReadRingRow.holds Tryz.pinned (OpenSpec.ofChange fnExactReadRingSpec)

/-- ITS FALSE NEIGHBOUR: 'it returns false'. Refute it at one input. -/
def fnExactReadRingWrong : ChangeSpec := { name := "fnExactReadRing", fn := fun _ => fun
  | [d1, d2, d3, d4] => { results := [.lit (.bool false)], args := [d1, d2, d3, d4] }
  | _ => none }
def FnExactReadRingWrongFalsely : Prop := fnExactReadRingRow.holds Tryz.pinned (OpenSpec.ofChange fnExactReadRingWrong)

/-- 'laws.FnAcknowledged': WHATEVER THE INPUT: true; the input reads as it did. -/
def fnAcknowledgedSpec : ChangeSpec := { name := "fnAcknowledged", fn := fun _ => fun
  | [d1, d2] => { results := [.lit (.bool true)], args := [d1, d2] }
  | _ => none }
def fnAcknowledgedRow : OpenClaim := { program := "ytanilephcohjkaagreat", sum := "52673217891603cc8c8aa713b4244cf55fe6d0b6a630a65ac65e4871461c40f8", func := "loop.example/g00039/laws.FnAcknowledged", spec := "fnAcknowledged", inPlace := ["internal/abi.NoEscape", "internal/bytealg.MakeNoZero", "slices.overlaps[loop.example/g00039/impl.Series]", "internal/bytealg.IndexByteString"], unfollowed := true, recurses := true, apart := false }
def FnAcknowledgedSaid : Prop := fnAcknowledgedRow.holds Tryz.pinned (OpenSpec.ofChange fnAcknowledgedSpec)

/-- ITS FALSE NEIGHBOUR: 'it returns false'. Refute it at one input. -/
def fnAcknowledgedWrong : ChangeSpec := { name := "fnAcknowledged", fn := fun _ => fun
  | [d1, d2] => { results := [.lit (.bool false)], args := [d1, d2] }
  | _ => none }
def FnAcknowledgedWrongFalsely : Prop := fnAcknowledgedRow.holds Tryz.pinned (OpenSpec.ofChange fnAcknowledgedWrong)

/-- 'laws.FnRepaired': WHATEVER THE INPUT: true; the input reads as it did. -/
def fnRepairedSpec : ChangeSpec := { name := "fnRepaired", fn := fun _ => fun
  | [d1, d2] => { results := [.lit (.bool true)], args := [d1, d2] }
  | _ => none }
def fnRepairedRow : OpenClaim := { program := "ytanilephcohjkaagreat", sum := "52673217891603cc8c8aa713b4244cf55fe6d0b6a630a65ac65e4871461c40f8", func := "loop.example/g00039/laws.FnRepaired", spec := "fnRepaired", inPlace := ["internal/abi.NoEscape", "internal/bytealg.MakeNoZero", "slices.overlaps[loop.example/g00039/impl.Series]", "internal/bytealg.IndexByteString", "slices.overlaps[loop.example/g00039/impl.RingNode]", "slices.overlaps[[]loop.example/g00039/impl.Series]"], unfollowed := true, recurses := true, apart := false }
def FnRepairedSaid : Prop := fnRepairedRow.holds Tryz.pinned (OpenSpec.ofChange fnRepairedSpec)

/-- ITS FALSE NEIGHBOUR: 'it returns false'. Refute it at one input. -/
def fnRepairedWrong : ChangeSpec := { name := "fnRepaired", fn := fun _ => fun
  | [d1, d2] => { results := [.lit (.bool false)], args := [d1, d2] }
  | _ => none }
def FnRepairedWrongFalsely : Prop := fnRepairedRow.holds Tryz.pinned (OpenSpec.ofChange fnRepairedWrong)

/- THE SECOND FORM. 'bulk': how many values and letters a reading holds, each counted each time it is reached (what is shared counts as often as it is met; a slice's spare places count too). A statement '..UptoSaid' is the law's where the arguments, and the package variables that the reading takes, are together of bulk at most 1048576: NARROWER than '..Said'. Prove '..Said' where nothing that the law and all that it calls make is longer than what came in: it says more and counts as full. Else prove '..UptoSaid'. A law counts once. -/
mutual
def uptoBulk {H : Type} : DataW H → Nat
  | .lit (.string bytes) => bytes.length + 1
  | .lit _ => 1
  | .nil => 1
  | .ptr d => uptoBulk d + 1
  | .slice elems spare => uptoBulkAll elems + uptoBulkAll spare + 1
  | .agg parts => uptoBulkAll parts + 1
  | .iface _ d => uptoBulk d + 1
  | .map entries => uptoBulkEntries entries + 1
  | .held _ => 1
def uptoBulkAll {H : Type} : List (DataW H) → Nat
  | [] => 0
  | d :: r => uptoBulk d + uptoBulkAll r
def uptoBulkEntries {H : Type} : List (Lit × DataW H) → Nat
  | [] => 0
  | x :: r => uptoBulkEntry x + uptoBulkEntries r
def uptoBulkEntry {H : Type} : Lit × DataW H → Nat
  | (.string bytes, d) => bytes.length + uptoBulk d + 1
  | (_, d) => uptoBulk d + 1
 end
def uptoSmall : (H : Type) → List (DataW H) → Bool := fun _ ds => decide (uptoBulkAll ds ≤ 1048576)
def OpenSpec.upto (s : _root_.Go.ChangeSpec) : _root_.Go.OpenSpec := { _root_.Go.OpenSpec.ofChange s with cond := some uptoSmall }

/-- 'laws.FnExactRepairRing', WHERE WHAT IT READS IS OF BULK AT MOST 1048576: true; the input reads as it did. -/
def fnExactRepairRingUptoRow : OpenClaim := { program := "ytanilephcohjkaagreat", sum := "52673217891603cc8c8aa713b4244cf55fe6d0b6a630a65ac65e4871461c40f8", func := "loop.example/g00039/laws.FnExactRepairRing", spec := "fnExactRepairRing", inPlace := ["internal/abi.NoEscape", "internal/bytealg.MakeNoZero", "slices.overlaps[loop.example/g00039/impl.Series]"], unfollowed := true, recurses := true, apart := false, narrowed := true }
def FnExactRepairRingUptoSaid : Prop := fnExactRepairRingUptoRow.holds Tryz.pinned (OpenSpec.upto fnExactRepairRingSpec)

/-- 'laws.FnExactJoinRing', WHERE WHAT IT READS IS OF BULK AT MOST 1048576: true; the input reads as it did. -/
def fnExactJoinRingUptoRow : OpenClaim := { program := "ytanilephcohjkaagreat", sum := "52673217891603cc8c8aa713b4244cf55fe6d0b6a630a65ac65e4871461c40f8", func := "loop.example/g00039/laws.FnExactJoinRing", spec := "fnExactJoinRing", inPlace := ["slices.overlaps[loop.example/g00039/impl.RingNode]", "slices.overlaps[[]loop.example/g00039/impl.Series]", "internal/abi.NoEscape", "internal/bytealg.MakeNoZero", "slices.overlaps[loop.example/g00039/impl.Series]"], unfollowed := true, recurses := true, apart := false, narrowed := true }
def FnExactJoinRingUptoSaid : Prop := fnExactJoinRingUptoRow.holds Tryz.pinned (OpenSpec.upto fnExactJoinRingSpec)

/-- 'laws.FnExactWriteRing', WHERE WHAT IT READS IS OF BULK AT MOST 1048576: true; the input reads as it did. -/
def fnExactWriteRingUptoRow : OpenClaim := { program := "ytanilephcohjkaagreat", sum := "52673217891603cc8c8aa713b4244cf55fe6d0b6a630a65ac65e4871461c40f8", func := "loop.example/g00039/laws.FnExactWriteRing", spec := "fnExactWriteRing", inPlace := ["internal/abi.NoEscape", "internal/bytealg.MakeNoZero", "slices.overlaps[loop.example/g00039/impl.Series]"], unfollowed := true, recurses := true, apart := false, narrowed := true }
def FnExactWriteRingUptoSaid : Prop := fnExactWriteRingUptoRow.holds Tryz.pinned (OpenSpec.upto fnExactWriteRingSpec)

/-- 'laws.FnExactReadRing', WHERE WHAT IT READS IS OF BULK AT MOST 1048576: true; the input reads as it did. -/
def fnExactReadRingUptoRow : OpenClaim := { program := "ytanilephcohjkaagreat", sum := "52673217891603cc8c8aa713b4244cf55fe6d0b6a630a65ac65e4871461c40f8", func := "loop.example/g00039/laws.FnExactReadRing", spec := "fnExactReadRing", inPlace := ["internal/bytealg.IndexByteString", "slices.overlaps[loop.example/g00039/impl.Series]"], unfollowed := true, recurses := true, apart := false, narrowed := true }
def FnExactReadRingUptoSaid : Prop := fnExactReadRingUptoRow.holds Tryz.pinned (OpenSpec.upto fnExactReadRingSpec)

/-- 'laws.FnAcknowledged', WHERE WHAT IT READS IS OF BULK AT MOST 1048576: true; the input reads as it did. -/
def fnAcknowledgedUptoRow : OpenClaim := { program := "ytanilephcohjkaagreat", sum := "52673217891603cc8c8aa713b4244cf55fe6d0b6a630a65ac65e4871461c40f8", func := "loop.example/g00039/laws.FnAcknowledged", spec := "fnAcknowledged", inPlace := ["internal/abi.NoEscape", "internal/bytealg.MakeNoZero", "slices.overlaps[loop.example/g00039/impl.Series]", "internal/bytealg.IndexByteString"], unfollowed := true, recurses := true, apart := false, narrowed := true }
def FnAcknowledgedUptoSaid : Prop := fnAcknowledgedUptoRow.holds Tryz.pinned (OpenSpec.upto fnAcknowledgedSpec)

/-- 'laws.FnRepaired', WHERE WHAT IT READS IS OF BULK AT MOST 1048576: true; the input reads as it did. -/
def fnRepairedUptoRow : OpenClaim := { program := "ytanilephcohjkaagreat", sum := "52673217891603cc8c8aa713b4244cf55fe6d0b6a630a65ac65e4871461c40f8", func := "loop.example/g00039/laws.FnRepaired", spec := "fnRepaired", inPlace := ["internal/abi.NoEscape", "internal/bytealg.MakeNoZero", "slices.overlaps[loop.example/g00039/impl.Series]", "internal/bytealg.IndexByteString", "slices.overlaps[loop.example/g00039/impl.RingNode]", "slices.overlaps[[]loop.example/g00039/impl.Series]"], unfollowed := true, recurses := true, apart := false, narrowed := true }
def FnRepairedUptoSaid : Prop := fnRepairedUptoRow.holds Tryz.pinned (OpenSpec.upto fnRepairedSpec)

end Rows
end Go.Proofs.YtanilephcohjkaaGreat
