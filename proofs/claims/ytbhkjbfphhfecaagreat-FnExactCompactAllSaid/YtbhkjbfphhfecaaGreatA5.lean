/- The program's table of what an alternative stands for, and its parts. No condition beyond the lengths. -/
import Derived.Test.YtbhkjbfphhfecaaGreatA4
namespace Go.Ring
open Go Go.RowKit Go.Eager Go.Abs Go.Proofs
set_option maxRecDepth 100000
set_option linter.unusedVariables false
set_option linter.unusedSimpArgs false
@[reducible] def tabF (a : List Int) (s : ByteArray) (j : Nat) : St := ⟨[(0, .sv (altS a)), (1, .sv (str s)), (6, .own 17), (7, .sv (int ((j : Int) - 1)))], [(17, .rowl 215 ((tabL a s.data.toList j).map .sv))]⟩
@[reducible] def tabI (a : List Int) (s : ByteArray) (i j : Nat) : St := ⟨[(0, .sv (altS a)), (1, .sv (str s)), (6, .own 17), (7, .sv (int i)), (8, .sv (int ((j : Int) - 1)))], [(17, .rowl 215 (((tabL a s.data.toList (i + 1)).map .sv).set i (.own 29))), (29, .row 1 4 ((rowP (a.drop i) s.data.toList j).map bool))]⟩
def strp (p : List UInt8) : SV := str ⟨p.toArray⟩
@[reducible] def prtF (a : List Int) (s : ByteArray) (i k : Nat) (out : List (List UInt8)) : St := ⟨[(1, .sv (str s)), (6, .sv (.sl 1 (tabL a s.data.toList 0))), (9, .own 9), (10, .sv (int k)), (133, .sv (altS a)), (134, .sv (int a.length)), (135, .sv (int i))], [(9, .row 1 9 (out.map strp))]⟩
end Go.Ring
