/- The bytes of a pattern: a byte's place; a piece put behind the last alternative. No condition. -/
import Derived.Test.YtbhkjbfphhfecaaGreatG6
import Derived.Test.YtbhkjbfphhfecaaGreatEg3
import Derived.Lib.Bytealg
namespace Go.Abs
open Go Go.RowKit Go.Eager
set_option linter.unusedVariables false
section
variable {Γ : Ctx} {ops : Array Oper} {l : List (Oper × Nat)} {t : List (Nat × LV)} {h : List (Nat × Ent)} {K : St → Prop} {c d ty : Nat} {ps : String} {af : Array Edge} {x y : Operand}
end
end Go.Abs
namespace Go.Ring
open Go Go.RowKit Go.Eager Go.Abs Go.Proofs
set_option maxRecDepth 100000
set_option linter.unusedVariables false
set_option linter.unusedSimpArgs false
/-- A piece of a pattern: a byte; any ones; any one. -/
def pcV (x : Int) : List SV := [.raw (.int .u8 (if x < 0 then 0 else x)), bool (x == -2), bool (x == -1)]
def pc (x : Int) : SV := .agg (pcV x)
def putH (ko kb ki : Nat) (fr : List SV) (qs : List SV) : List (Nat × Ent) := [(kb, .box [.own ko]), (ko, .rowl 235 (fr.map .sv ++ [.own ki])), (ki, .row 3 234 qs)]
end Go.Ring
