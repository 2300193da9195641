/- The given program's NewStore and the reference's make the same store, in memory of its own, for all arguments. No condition. -/
import Derived.Test.YtppifefhpjhmaabPreFnExactNewStore
namespace Go.Proofs.Ytppifefhpjhmaab.Pure
open Go.RowKit Go.Proofs.Ytppifefhpjhmaab.PFnExactNewStore Go.Proofs.YtppifefhpjhmaabW.PrintWords Go.Proofs.YtppifefhpjhmaabW.PrintLast Go.Proofs.Ytppifefhpjhmaab.Open Go.Proofs.Ytppifefhpjhmaab.PreFnExactNewStore

theorem FnExactNewStore : Law.Pure := fun _ _ => rfl

end Go.Proofs.Ytppifefhpjhmaab.Pure
