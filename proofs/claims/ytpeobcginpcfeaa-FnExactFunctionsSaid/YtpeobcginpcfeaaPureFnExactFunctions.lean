/- The given program's Functions and the reference's return the same list of texts, in memory of its own. No condition. -/
import Derived.Test.YtpeobcginpcfeaaPFnExactFunctionsx1
namespace Go.Proofs.Ytpeobcginpcfeaa.Pure
open Go.RowKit Go.Proofs.Ytpeobcginpcfeaa.PFnExactFunctions Go.Proofs.YtpeobcginpcfeaaW.PrintWords Go.Proofs.YtpeobcginpcfeaaW.PrintLast

theorem FnExactFunctions : laws_FnExactFunctions.Pure := by
  refine ⟨60, ?_⟩
  decide +kernel

end Go.Proofs.Ytpeobcginpcfeaa.Pure
