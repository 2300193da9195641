/- The law of what is to be compacted next. No condition. -/
import Derived.Test.YtbhkjbfphhfecaaGreatU1
import Derived.Test.YtbhkjbfphhfecaaGreatE4
set_option maxRecDepth 100000
set_option linter.unusedVariables false
set_option linter.unusedSimpArgs false
namespace Go.Ring
open Go Go.RowKit Go.Eager Go.Abs Go.Proofs
end Go.Ring
