/- A pattern's alternatives: what the program makes of its bytes. No condition beyond the lengths. -/
import Derived.Test.YtbhkjbfphhfecaaGreatA1
namespace Go.Ring
open Go Go.RowKit Go.Eager Go.Abs Go.Proofs
set_option maxRecDepth 100000
set_option linter.unusedVariables false
set_option linter.unusedSimpArgs false
/-- What bytes stand for: alternatives of bytes, of any one (-2), of any ones (-1). -/
def alts : List UInt8 → List Int → List (List Int) → Option (List (List Int))
  | [], now, out => some (out ++ [now])
  | [c], now, out => if c = 124 then some (out ++ [now] ++ [[]]) else if c = 42 then some (out ++ [now ++ [-1]]) else if c = 63 then some (out ++ [now ++ [-2]]) else if c = 92 then none else some (out ++ [now ++ [(c.toNat : Int)]])
  | c :: e :: l, now, out =>
    if c = 124 then alts (e :: l) [] (out ++ [now]) else if c = 42 then alts (e :: l) (now ++ [-1]) out else if c = 63 then alts (e :: l) (now ++ [-2]) out
    else if c = 92 then (if e = 42 ∨ e = 63 ∨ e = 124 ∨ e = 92 then alts l (now ++ [(e.toNat : Int)]) out else none) else alts (e :: l) (now ++ [(c.toNat : Int)]) out
theorem alts_bar (l : List UInt8) (now : List Int) (out : List (List Int)) : alts (124 :: l) now out = alts l [] (out ++ [now]) := by
  cases l <;> simp [alts]
theorem alts_star (l : List UInt8) (now : List Int) (out : List (List Int)) : alts (42 :: l) now out = alts l (now ++ [-1]) out := by
  cases l <;> simp [alts]
theorem alts_any (l : List UInt8) (now : List Int) (out : List (List Int)) : alts (63 :: l) now out = alts l (now ++ [-2]) out := by
  cases l <;> simp [alts]
theorem alts_esc0 (now : List Int) (out : List (List Int)) : alts [92] now out = none := by simp [alts]
theorem alts_esc (e : UInt8) (l : List UInt8) (now : List Int) (out : List (List Int)) : alts (92 :: e :: l) now out = if e = 42 ∨ e = 63 ∨ e = 124 ∨ e = 92 then alts l (now ++ [(e.toNat : Int)]) out else none := by
  simp [alts]
theorem alts_byte {c : UInt8} (l : List UInt8) (now : List Int) (out : List (List Int)) (h1 : c ≠ 124) (h2 : c ≠ 42) (h3 : c ≠ 63) (h4 : c ≠ 92) : alts (c :: l) now out = alts l (now ++ [(c.toNat : Int)]) out := by
  cases l <;> simp [alts, h1, h2, h3, h4]
def altS (a : List Int) : SV := .sl 3 (a.map pc)
def altsV : Option (List (List Int)) → SV
  | some out => .tup [.sl 1 (out.map altS), bool true]
  | none => .tup [.raw (.slice none 0 0), bool false]
/-- The bytes of a good pattern. -/
def patG (s : ByteArray) : Option (List (List Int)) := if (s.size : Int) ≤ 100 ∧ printedB s = true then alts s.data.toList [] [] else none
/-- The frame of the loop. -/
def altH (out : List (List Int)) (now : List Int) : List (Nat × Ent) := putH 1002 4 1003 (out.map altS) (now.map pc)
@[reducible] def altF (s : ByteArray) (i : Nat) (now : List Int) (out : List (List Int)) : St := ⟨[(0, .sv (str s)), (4, .ptr 4 0), (5, .cfn 229 [4]), (6, .sv (int i))], altH out now⟩
theorem drop_cons {α : Type} {l : List α} {i : Nat} {x : α} (h : l[i]? = some x) : l.drop i = x :: l.drop (i + 1) := by
  obtain ⟨h1, h2⟩ := List.getElem?_eq_some_iff.1 h
  rw [List.drop_eq_getElem_cons h1, h2]
theorem ubt {b c : UInt8} (h : (b.toNat : Int) = (c.toNat : Int)) : b = c := UInt8.toNat_inj.1 (by omega)
end Go.Ring
