/-
  No cell of these rows narrows 'for every input' (looked for: loops, veiled, ifaces, maps, wideKeys, modest, calm, conditions, laid).
  DERIVED. THE GIVEN ROWS OF THIS SEAT. 5 by the template 'for every input the law returns true; each argument reads behind the call as it read before'; 0 by the template 'total and deterministic' (their statements: YtlokejcoikddgaaTotals.lean).
  GIVEN WITH THE SEED: the statements are not yours to turn. If you find one false, say at which input.
  Laid BY PROGRAM, IN A SANDBOX (cutbox-rows.mjs): the forced cells as the released guide's own fill.sh prints them over the translation ebb51483d54fc2c0… (all of the seat's roots in one cut). By AI agents, Wed Nov 11 2026. No macro, syntax, notation, axiom, sorry.
-/
import Derived.Test.YtlokejcoikddgaaChecked
import GoSem.Claim
import GoSem.ClaimJoined
import GoSem.ClaimMapViews
import Derived.JoinedTies
import Derived.KernelRfl
namespace Go.Proofs.Ytlokejcoikddgaa
/- THE CELL 'sum', in the pinned program and in every row, IS THE sha256 OF THE DUMP (.gsa) THAT YtlokejcoikddgaaProg.lean LOADS. Nothing in Lean hashes anything: it is a label: what it is worth is what the hold of that sum in a sandbox is worth. -/
noncomputable def Try.pinned : Pinned := { name := "ytlokejcoikddgaa", sum := "ebb51483d54fc2c0b3225c72d125b6276168068f2313b4b33d4e899fff293f9a", checked := Try.checked }
namespace Rows
def none {H : Type} : Left H := { results := [], args := [] }

/-- 'laws.FnExactPostings': WHATEVER THE INPUT: true; the input reads as it did. -/
def fnExactPostingsSpec : ChangeSpec := { name := "fnExactPostings", fn := fun _ => fun
  | [d1, d2, d3] => { results := [.lit (.bool true)], args := [d1, d2, d3] }
  | _ => none }
def fnExactPostingsRow : OpenClaim := { program := "ytlokejcoikddgaa", sum := "ebb51483d54fc2c0b3225c72d125b6276168068f2313b4b33d4e899fff293f9a", func := "loop.example/g00039/laws.FnExactPostings", spec := "fnExactPostings", unfollowed := true, recurses := true, apart := false }
def FnExactPostingsSaid : Prop := fnExactPostingsRow.holds Try.pinned (OpenSpec.ofChange fnExactPostingsSpec)

/-- ITS FALSE NEIGHBOUR: 'it returns false'. Refute it at one input. -/
def fnExactPostingsWrong : ChangeSpec := { name := "fnExactPostings", fn := fun _ => fun
  | [d1, d2, d3] => { results := [.lit (.bool false)], args := [d1, d2, d3] }
  | _ => none }
def FnExactPostingsWrongFalsely : Prop := fnExactPostingsRow.holds Try.pinned (OpenSpec.ofChange fnExactPostingsWrong)

/-- 'laws.FnExactCanRead': WHATEVER THE INPUT: true; the input reads as it did. -/
def fnExactCanReadSpec : ChangeSpec := { name := "fnExactCanRead", fn := fun _ => fun
  | [d] => { results := [.lit (.bool true)], args := [d] }
  | _ => none }
def fnExactCanReadRow : OpenClaim := { program := "ytlokejcoikddgaa", sum := "ebb51483d54fc2c0b3225c72d125b6276168068f2313b4b33d4e899fff293f9a", func := "loop.example/g00039/laws.FnExactCanRead", spec := "fnExactCanRead", unfollowed := true, recurses := true, apart := false }
def FnExactCanReadSaid : Prop := fnExactCanReadRow.holds Try.pinned (OpenSpec.ofChange fnExactCanReadSpec)

/-- ITS FALSE NEIGHBOUR: 'it returns false'. Refute it at one input. -/
def fnExactCanReadWrong : ChangeSpec := { name := "fnExactCanRead", fn := fun _ => fun
  | [d] => { results := [.lit (.bool false)], args := [d] }
  | _ => none }
def FnExactCanReadWrongFalsely : Prop := fnExactCanReadRow.holds Try.pinned (OpenSpec.ofChange fnExactCanReadWrong)

/-- 'laws.FnExactOwnersOf': WHATEVER THE INPUT: true; the input reads as it did. -/
def fnExactOwnersOfSpec : ChangeSpec := { name := "fnExactOwnersOf", fn := fun _ => fun
  | [d1, d2] => { results := [.lit (.bool true)], args := [d1, d2] }
  | _ => none }
def fnExactOwnersOfRow : OpenClaim := { program := "ytlokejcoikddgaa", sum := "ebb51483d54fc2c0b3225c72d125b6276168068f2313b4b33d4e899fff293f9a", func := "loop.example/g00039/laws.FnExactOwnersOf", spec := "fnExactOwnersOf", unfollowed := true, recurses := true, apart := false }
def FnExactOwnersOfSaid : Prop := fnExactOwnersOfRow.holds Try.pinned (OpenSpec.ofChange fnExactOwnersOfSpec)

/-- ITS FALSE NEIGHBOUR: 'it returns false'. Refute it at one input. -/
def fnExactOwnersOfWrong : ChangeSpec := { name := "fnExactOwnersOf", fn := fun _ => fun
  | [d1, d2] => { results := [.lit (.bool false)], args := [d1, d2] }
  | _ => none }
def FnExactOwnersOfWrongFalsely : Prop := fnExactOwnersOfRow.holds Try.pinned (OpenSpec.ofChange fnExactOwnersOfWrong)

/-- 'laws.FnExactDedupSeries': WHATEVER THE INPUT: true; the input reads as it did. -/
def fnExactDedupSeriesSpec : ChangeSpec := { name := "fnExactDedupSeries", fn := fun _ => fun
  | [d1, d2, d3] => { results := [.lit (.bool true)], args := [d1, d2, d3] }
  | _ => none }
def fnExactDedupSeriesRow : OpenClaim := { program := "ytlokejcoikddgaa", sum := "ebb51483d54fc2c0b3225c72d125b6276168068f2313b4b33d4e899fff293f9a", func := "loop.example/g00039/laws.FnExactDedupSeries", spec := "fnExactDedupSeries", inPlace := ["slices.overlaps[loop.example/g00039/impl.Series]"], unfollowed := true, recurses := true, apart := false }
def FnExactDedupSeriesSaid : Prop := fnExactDedupSeriesRow.holds Try.pinned (OpenSpec.ofChange fnExactDedupSeriesSpec)

/-- ITS FALSE NEIGHBOUR: 'it returns false'. Refute it at one input. -/
def fnExactDedupSeriesWrong : ChangeSpec := { name := "fnExactDedupSeries", fn := fun _ => fun
  | [d1, d2, d3] => { results := [.lit (.bool false)], args := [d1, d2, d3] }
  | _ => none }
def FnExactDedupSeriesWrongFalsely : Prop := fnExactDedupSeriesRow.holds Try.pinned (OpenSpec.ofChange fnExactDedupSeriesWrong)

/-- 'laws.FnExactRetainBlocks': WHATEVER THE INPUT: true; the input reads as it did. -/
def fnExactRetainBlocksSpec : ChangeSpec := { name := "fnExactRetainBlocks", fn := fun _ => fun
  | [d1, d2, d3] => { results := [.lit (.bool true)], args := [d1, d2, d3] }
  | _ => none }
def fnExactRetainBlocksRow : OpenClaim := { program := "ytlokejcoikddgaa", sum := "ebb51483d54fc2c0b3225c72d125b6276168068f2313b4b33d4e899fff293f9a", func := "loop.example/g00039/laws.FnExactRetainBlocks", spec := "fnExactRetainBlocks", unfollowed := true, recurses := true, apart := false }
def FnExactRetainBlocksSaid : Prop := fnExactRetainBlocksRow.holds Try.pinned (OpenSpec.ofChange fnExactRetainBlocksSpec)

/-- ITS FALSE NEIGHBOUR: 'it returns false'. Refute it at one input. -/
def fnExactRetainBlocksWrong : ChangeSpec := { name := "fnExactRetainBlocks", fn := fun _ => fun
  | [d1, d2, d3] => { results := [.lit (.bool false)], args := [d1, d2, d3] }
  | _ => none }
def FnExactRetainBlocksWrongFalsely : Prop := fnExactRetainBlocksRow.holds Try.pinned (OpenSpec.ofChange fnExactRetainBlocksWrong)

/- THE SECOND FORM. 'bulk': how many values and letters a reading holds, each counted each time it is reached (what is shared counts as often as it is met; a slice's spare places count too). A statement '..UptoSaid' is the law's where the arguments, and the package variables that the reading takes, are together of bulk at most 1048576: NARROWER than '..Said'. Prove '..Said' where nothing that the law and all that it calls make is longer than what came in: it says more and counts as full. Else prove '..UptoSaid'. A law counts once. -/
mutual
def uptoBulk {H : Type} : DataW H → Nat
  | .lit (.string bytes) => bytes.length + 1
  | .lit _ => 1
  | .nil => 1
  | .ptr d => uptoBulk d + 1
  | .slice elems spare => uptoBulkAll elems + uptoBulkAll spare + 1
  | .agg parts => uptoBulkAll parts + 1
  | .iface _ d => uptoBulk d + 1
  | .map entries => uptoBulkEntries entries + 1
  | .held _ => 1
def uptoBulkAll {H : Type} : List (DataW H) → Nat
  | [] => 0
  | d :: r => uptoBulk d + uptoBulkAll r
def uptoBulkEntries {H : Type} : List (Lit × DataW H) → Nat
  | [] => 0
  | x :: r => uptoBulkEntry x + uptoBulkEntries r
def uptoBulkEntry {H : Type} : Lit × DataW H → Nat
  | (.string bytes, d) => bytes.length + uptoBulk d + 1
  | (_, d) => uptoBulk d + 1
 end
def uptoSmall : (H : Type) → List (DataW H) → Bool := fun _ ds => decide (uptoBulkAll ds ≤ 1048576)
def OpenSpec.upto (s : _root_.Go.ChangeSpec) : _root_.Go.OpenSpec := { _root_.Go.OpenSpec.ofChange s with cond := some uptoSmall }

/-- 'laws.FnExactPostings', WHERE WHAT IT READS IS OF BULK AT MOST 1048576: true; the input reads as it did. -/
def fnExactPostingsUptoRow : OpenClaim := { program := "ytlokejcoikddgaa", sum := "ebb51483d54fc2c0b3225c72d125b6276168068f2313b4b33d4e899fff293f9a", func := "loop.example/g00039/laws.FnExactPostings", spec := "fnExactPostings", unfollowed := true, recurses := true, apart := false, narrowed := true }
def FnExactPostingsUptoSaid : Prop := fnExactPostingsUptoRow.holds Try.pinned (OpenSpec.upto fnExactPostingsSpec)

/-- 'laws.FnExactCanRead', WHERE WHAT IT READS IS OF BULK AT MOST 1048576: true; the input reads as it did. -/
def fnExactCanReadUptoRow : OpenClaim := { program := "ytlokejcoikddgaa", sum := "ebb51483d54fc2c0b3225c72d125b6276168068f2313b4b33d4e899fff293f9a", func := "loop.example/g00039/laws.FnExactCanRead", spec := "fnExactCanRead", unfollowed := true, recurses := true, apart := false, narrowed := true }
def FnExactCanReadUptoSaid : Prop := fnExactCanReadUptoRow.holds Try.pinned (OpenSpec.upto fnExactCanReadSpec)

/-- 'laws.FnExactOwnersOf', WHERE WHAT IT READS IS OF BULK AT MOST 1048576: true; the input reads as it did. -/
def fnExactOwnersOfUptoRow : OpenClaim := { program := "ytlokejcoikddgaa", sum := "ebb51483d54fc2c0b3225c72d125b6276168068f2313b4b33d4e899fff293f9a", func := "loop.example/g00039/laws.FnExactOwnersOf", spec := "fnExactOwnersOf", unfollowed := true, recurses := true, apart := false, narrowed := true }
def FnExactOwnersOfUptoSaid : Prop := fnExactOwnersOfUptoRow.holds Try.pinned (OpenSpec.upto fnExactOwnersOfSpec)

/-- 'laws.FnExactDedupSeries', WHERE WHAT IT READS IS OF BULK AT MOST 1048576: true; the input reads as it did. -/
def fnExactDedupSeriesUptoRow : OpenClaim := { program := "ytlokejcoikddgaa", sum := "ebb51483d54fc2c0b3225c72d125b6276168068f2313b4b33d4e899fff293f9a", func := "loop.example/g00039/laws.FnExactDedupSeries", spec := "fnExactDedupSeries", inPlace := ["slices.overlaps[loop.example/g00039/impl.Series]"], unfollowed := true, recurses := true, apart := false, narrowed := true }
def FnExactDedupSeriesUptoSaid : Prop := fnExactDedupSeriesUptoRow.holds Try.pinned (OpenSpec.upto fnExactDedupSeriesSpec)

/-- 'laws.FnExactRetainBlocks', WHERE WHAT IT READS IS OF BULK AT MOST 1048576: true; the input reads as it did. -/
def fnExactRetainBlocksUptoRow : OpenClaim := { program := "ytlokejcoikddgaa", sum := "ebb51483d54fc2c0b3225c72d125b6276168068f2313b4b33d4e899fff293f9a", func := "loop.example/g00039/laws.FnExactRetainBlocks", spec := "fnExactRetainBlocks", unfollowed := true, recurses := true, apart := false, narrowed := true }
def FnExactRetainBlocksUptoSaid : Prop := fnExactRetainBlocksUptoRow.holds Try.pinned (OpenSpec.upto fnExactRetainBlocksSpec)

end Rows
end Go.Proofs.Ytlokejcoikddgaa
