/- Rows of numbers are alike. No condition. -/
import Derived.Test.YtbhkjbfphhfecaaGreatFam
set_option maxRecDepth 100000
set_option linter.unusedVariables false
set_option linter.unusedSimpArgs false
namespace Go.Ring
open Go Go.RowKit Go.Eager Go.Abs Go.Proofs
end Go.Ring
