/- A part of the proof. No condition. -/
import Derived.Test.YtbhkjbfphhfecaaGreatG2
namespace Go.Ring
open Go Go.RowKit Go.Eager Go.Abs Go.Proofs
set_option maxRecDepth 100000
set_option linter.unusedVariables false
set_option linter.unusedSimpArgs false
end Go.Ring
