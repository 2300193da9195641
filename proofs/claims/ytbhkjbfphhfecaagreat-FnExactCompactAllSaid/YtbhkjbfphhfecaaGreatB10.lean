/- What is chosen of the blocks of a shelf: program and reference. No condition beyond the sizes. -/
import Derived.Test.YtbhkjbfphhfecaaGreatB9
import Derived.Test.YtbhkjbfphhfecaaGreatD2
set_option maxRecDepth 100000
set_option linter.unusedVariables false
set_option linter.unusedSimpArgs false
namespace Go.Ring
open Go Go.RowKit Go.Eager Go.Abs Go.Proofs
/-- What is chosen of blocks, laid together. -/
def selA (ms : List Matcher) (f t : Int) (l : List Block) : List Series := l.foldl (fun a b => mrgS a (selL ms f t (standL b))) []
noncomputable def resSB (base : Int) (l : List Block) (ms : List Matcher) (f t : Int) : List Series := if pB (ShelfOk base l) = true ∧ gmsB ms = true ∧ pB (SeriesOk (selA ms f t l)) = true then selA ms f t l else []
theorem shelf_blocks {base : Int} {l : List Block} (h : ShelfOk base l) : ∀ y ∈ l, BlockOk y := fun y hy => by
  obtain ⟨i, hi⟩ := List.getElem?_of_mem hy
  exact (h.2.2.2 i y hi).2.1
end Go.Ring
