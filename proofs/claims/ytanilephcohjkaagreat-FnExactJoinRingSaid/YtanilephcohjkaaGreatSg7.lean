/- Parts of the proof, laid together: A1 A2 A3 A4 A5. No condition. -/
import Derived.Test.YtanilephcohjkaaGreatSg4
import Derived.Test.YtanilephcohjkaaGreatEg3
import Derived.Lib.Bytealg
/- The bytes of a pattern: a byte's place; a piece put behind the last alternative. No condition. -/
namespace Go.Abs
open Go Go.RowKit Go.Eager
set_option linter.unusedVariables false
section
variable {Γ : Ctx} {ops : Array Oper} {l : List (Oper × Nat)} {t : List (Nat × LV)} {h : List (Nat × Ent)} {K : St → Prop} {c d ty : Nat} {ps : String} {af : Array Edge} {x y : Operand}
end
end Go.Abs
namespace Go.Ring
open Go Go.RowKit Go.Eager Go.Abs Go.Proofs
set_option maxRecDepth 100000
set_option linter.unusedVariables false
set_option linter.unusedSimpArgs false
end Go.Ring

/- A pattern's alternatives: what the program makes of its bytes. No condition beyond the lengths. -/
namespace Go.Ring
open Go Go.RowKit Go.Eager Go.Abs Go.Proofs
set_option maxRecDepth 100000
set_option linter.unusedVariables false
set_option linter.unusedSimpArgs false
theorem drop_cons {α : Type} {l : List α} {i : Nat} {x : α} (h : l[i]? = some x) : l.drop i = x :: l.drop (i + 1) := by
  obtain ⟨h1, h2⟩ := List.getElem?_eq_some_iff.1 h
  rw [List.drop_eq_getElem_cons h1, h2]
end Go.Ring

/- A pattern's alternatives: what the reference makes of its bytes. No condition beyond the lengths. -/
namespace Go.Ring
open Go Go.RowKit Go.Eager Go.Abs Go.Proofs
set_option maxRecDepth 100000
set_option linter.unusedVariables false
set_option linter.unusedSimpArgs false
end Go.Ring

/- Which rests of a text an alternative's rests stand for: plain. No condition. -/
namespace Go.Ring
open Go Go.RowKit Go.Eager Go.Abs Go.Proofs
set_option maxRecDepth 100000
set_option linter.unusedVariables false
set_option linter.unusedSimpArgs false
def fitStar (f : List UInt8 → Bool) : List UInt8 → Bool
  | [] => f []
  | c :: s => f (c :: s) || fitStar f s
def fit : List Int → List UInt8 → Bool
  | [], s => s.isEmpty
  | x :: a, s => if x = -1 then fitStar (fit a) s else match s with | [] => false | c :: s' => (x == -2 || x == (c.toNat : Int)) && fit a s'
end Go.Ring

/- The program's table of what an alternative stands for, and its parts. No condition beyond the lengths. -/
namespace Go.Ring
open Go Go.RowKit Go.Eager Go.Abs Go.Proofs
set_option maxRecDepth 100000
set_option linter.unusedVariables false
set_option linter.unusedSimpArgs false
end Go.Ring
