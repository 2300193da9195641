/- What stands of a block's series, what is chosen of series: the program and the reference. No condition beyond the lengths. -/
import Derived.Test.YtanilephcohjkaaGreatB1
set_option maxRecDepth 100000
set_option linter.unusedVariables false
set_option linter.unusedSimpArgs false
namespace Go.Ring
open Go Go.RowKit Go.Eager Go.Abs Go.Proofs
theorem fm_step {α β : Type} (g : α → Option β) {l : List α} {k : Nat} {x : α} (h : l[k]? = some x) : (l.drop k).filterMap g = (g x).toList ++ (l.drop (k + 1)).filterMap g := by
  rw [drop_cons h, List.filterMap_cons]
  cases g x <;> rfl
theorem fm_len {α β : Type} (g : α → Option β) (l : List α) : (l.filterMap g).length ≤ l.length := List.length_filterMap_le _ _
theorem bl83P {a c : List SV} : BL Tryz.prog 125 [.sl 2 a, .sl 2 c] := by
  intro vs hv
  match vs, hv with
  | [w0, w1], hv =>
    obtain ⟨⟨p0, n0, c0, e0⟩, ⟨p1, n1, c1, e1⟩, -⟩ := hv
    rw [e0, e1]
    exact built125 p0 n0 c0 p1 n1 c1
end Go.Ring
