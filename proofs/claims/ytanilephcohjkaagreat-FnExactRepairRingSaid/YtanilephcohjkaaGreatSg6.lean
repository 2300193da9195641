/- Parts of the proof, laid together: A1 A2 A3 A4 A5. No condition. -/
import Derived.Test.YtanilephcohjkaaGreatSg5
import Derived.Test.YtanilephcohjkaaGreatEg3
import Derived.Lib.Bytealg
/- The bytes of a pattern: a byte's place; a piece put behind the last alternative. No condition. -/
namespace Go.Abs
open Go Go.RowKit Go.Eager
set_option linter.unusedVariables false
section
variable {Γ : Ctx} {ops : Array Oper} {l : List (Oper × Nat)} {t : List (Nat × LV)} {h : List (Nat × Ent)} {K : St → Prop} {c d ty : Nat} {ps : String} {af : Array Edge} {x y : Operand}
end
end Go.Abs
namespace Go.Ring
open Go Go.RowKit Go.Eager Go.Abs Go.Proofs
set_option maxRecDepth 100000
set_option linter.unusedVariables false
set_option linter.unusedSimpArgs false
/-- A piece of a pattern: a byte; any ones; any one. -/
def pcV (x : Int) : List SV := [.raw (.int .u8 (if x < 0 then 0 else x)), bool (x == -2), bool (x == -1)]
def pc (x : Int) : SV := .agg (pcV x)
def putH (ko kb ki : Nat) (fr : List SV) (qs : List SV) : List (Nat × Ent) := [(kb, .box [.own ko]), (ko, .rowl 281 (fr.map .sv ++ [.own ki])), (ki, .row 3 280 qs)]
end Go.Ring

/- A pattern's alternatives: what the program makes of its bytes. No condition beyond the lengths. -/
namespace Go.Ring
open Go Go.RowKit Go.Eager Go.Abs Go.Proofs
set_option maxRecDepth 100000
set_option linter.unusedVariables false
set_option linter.unusedSimpArgs false
/-- What bytes stand for: alternatives of bytes, of any one (-2), of any ones (-1). -/
def alts : List UInt8 → List Int → List (List Int) → Option (List (List Int))
  | [], now, out => some (out ++ [now])
  | [c], now, out => if c = 124 then some (out ++ [now] ++ [[]]) else if c = 42 then some (out ++ [now ++ [-1]]) else if c = 63 then some (out ++ [now ++ [-2]]) else if c = 92 then none else some (out ++ [now ++ [(c.toNat : Int)]])
  | c :: e :: l, now, out =>
    if c = 124 then alts (e :: l) [] (out ++ [now]) else if c = 42 then alts (e :: l) (now ++ [-1]) out else if c = 63 then alts (e :: l) (now ++ [-2]) out
    else if c = 92 then (if e = 42 ∨ e = 63 ∨ e = 124 ∨ e = 92 then alts l (now ++ [(e.toNat : Int)]) out else none) else alts (e :: l) (now ++ [(c.toNat : Int)]) out
def altS (a : List Int) : SV := .sl 3 (a.map pc)
def altsV : Option (List (List Int)) → SV
  | some out => .tup [.sl 1 (out.map altS), bool true]
  | none => .tup [.raw (.slice none 0 0), bool false]
/-- The bytes of a good pattern. -/
def patG (s : ByteArray) : Option (List (List Int)) := if (s.size : Int) ≤ 100 ∧ printedB s = true then alts s.data.toList [] [] else none
/-- The frame of the loop. -/
def altH (out : List (List Int)) (now : List Int) : List (Nat × Ent) := putH 1002 4 1003 (out.map altS) (now.map pc)
@[reducible] def altF (s : ByteArray) (i : Nat) (now : List Int) (out : List (List Int)) : St := ⟨[(0, .sv (str s)), (4, .ptr 4 0), (5, .cfn 275 [4]), (6, .sv (int i))], altH out now⟩
theorem drop_cons {α : Type} {l : List α} {i : Nat} {x : α} (h : l[i]? = some x) : l.drop i = x :: l.drop (i + 1) := by
  obtain ⟨h1, h2⟩ := List.getElem?_eq_some_iff.1 h
  rw [List.drop_eq_getElem_cons h1, h2]
end Go.Ring

/- A pattern's alternatives: what the reference makes of its bytes. No condition beyond the lengths. -/
namespace Go.Ring
open Go Go.RowKit Go.Eager Go.Abs Go.Proofs
set_option maxRecDepth 100000
set_option linter.unusedVariables false
set_option linter.unusedSimpArgs false
def altsW : Option (List (List Int)) → SV
  | some out => .tup [.sl 1 (out.map ints), bool true]
  | none => .tup [.raw (.slice none 0 0), bool false]
@[reducible] def altG (s : ByteArray) (i : Nat) (now : List Int) (out : List (List Int)) : St := ⟨[(0, .sv (str s)), (4, .own 4), (5, .own 5), (6, .sv (int i))], [(4, .row 1 40 (out.map ints)), (5, .row 1 3 (now.map int))]⟩
end Go.Ring

/- Which rests of a text an alternative's rests stand for: plain. No condition. -/
namespace Go.Ring
open Go Go.RowKit Go.Eager Go.Abs Go.Proofs
set_option maxRecDepth 100000
set_option linter.unusedVariables false
set_option linter.unusedSimpArgs false
def fitStar (f : List UInt8 → Bool) : List UInt8 → Bool
  | [] => f []
  | c :: s => f (c :: s) || fitStar f s
/-- An alternative stands for a text. -/
def fit : List Int → List UInt8 → Bool
  | [], s => s.isEmpty
  | x :: a, s => if x = -1 then fitStar (fit a) s else match s with | [] => false | c :: s' => (x == -2 || x == (c.toNat : Int)) && fit a s'
/-- All rests of the text, by places. -/
def rowB (a : List Int) (s : List UInt8) : List Bool := (List.range (s.length + 1)).map fun k => fit a (s.drop k)
def rowS (b : List Bool) : SV := .sl 1 (b.map bool)
/-- From j on. -/
def rowP (a : List Int) (s : List UInt8) (j : Nat) : List Bool := (List.range (s.length + 1)).map fun k => if k < j then false else fit a (s.drop k)
/-- The table: from row j on. -/
def tabL (a : List Int) (s : List UInt8) (j : Nat) : List SV := (List.range (a.length + 1)).map fun i => if i < j then .raw (.slice none 0 0) else rowS (rowB (a.drop i) s)
/-- What the stars stand for, in order. -/
def starN (a : List Int) : List UInt8 → Nat
  | [] => 0
  | c :: s => if fit a (c :: s) then 0 else starN a s + 1
def partsG : List Int → List UInt8 → List (List UInt8)
  | [], _ => []
  | x :: a, s => if x = -1 then s.take (starN a s) :: partsG a (s.drop (starN a s)) else partsG a (s.drop 1)
def partsV (a : List Int) (s : List UInt8) : SV := if fit a s then .tup [.sl 1 ((partsG a s).map fun p => str ⟨p.toArray⟩), bool true] else .tup [.raw (.slice none 0 0), bool false]
end Go.Ring

/- The program's table of what an alternative stands for, and its parts. No condition beyond the lengths. -/
namespace Go.Ring
open Go Go.RowKit Go.Eager Go.Abs Go.Proofs
set_option maxRecDepth 100000
set_option linter.unusedVariables false
set_option linter.unusedSimpArgs false
@[reducible] def tabF (a : List Int) (s : ByteArray) (j : Nat) : St := ⟨[(0, .sv (altS a)), (1, .sv (str s)), (6, .own 17), (7, .sv (int ((j : Int) - 1)))], [(17, .rowl 277 ((tabL a s.data.toList j).map .sv))]⟩
@[reducible] def tabI (a : List Int) (s : ByteArray) (i j : Nat) : St := ⟨[(0, .sv (altS a)), (1, .sv (str s)), (6, .own 17), (7, .sv (int i)), (8, .sv (int ((j : Int) - 1)))], [(17, .rowl 277 (((tabL a s.data.toList (i + 1)).map .sv).set i (.own 29))), (29, .row 1 4 ((rowP (a.drop i) s.data.toList j).map bool))]⟩
def strp (p : List UInt8) : SV := str ⟨p.toArray⟩
@[reducible] def prtF (a : List Int) (s : ByteArray) (i k : Nat) (out : List (List UInt8)) : St := ⟨[(1, .sv (str s)), (6, .sv (.sl 1 (tabL a s.data.toList 0))), (9, .own 9), (10, .sv (int k)), (133, .sv (altS a)), (134, .sv (int a.length)), (135, .sv (int i))], [(9, .row 1 9 (out.map strp))]⟩
end Go.Ring
