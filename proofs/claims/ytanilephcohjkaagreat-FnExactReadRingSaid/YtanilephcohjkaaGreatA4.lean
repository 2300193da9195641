/- Which rests of a text an alternative's rests stand for: plain. No condition. -/
import Derived.Test.YtanilephcohjkaaGreatA3
namespace Go.Ring
open Go Go.RowKit Go.Eager Go.Abs Go.Proofs
set_option maxRecDepth 100000
set_option linter.unusedVariables false
set_option linter.unusedSimpArgs false
def fitStar (f : List UInt8 → Bool) : List UInt8 → Bool
  | [] => f []
  | c :: s => f (c :: s) || fitStar f s
/-- An alternative stands for a text. -/
def fit : List Int → List UInt8 → Bool
  | [], s => s.isEmpty
  | x :: a, s => if x = -1 then fitStar (fit a) s else match s with | [] => false | c :: s' => (x == -2 || x == (c.toNat : Int)) && fit a s'
theorem fit_nil {s : List UInt8} {k : Nat} (hk : k ≤ s.length) : fit [] (s.drop k) = decide ((k : Int) = (s.length : Nat)) := by
  rcases Nat.lt_or_ge k s.length with h | h
  · obtain ⟨c, hc⟩ := sget h
    rw [drop_cons hc]
    have : ¬ ((k : Int) = (s.length : Nat)) := by omega
    simp [fit]; omega
  · have h2 : s.drop k = [] := List.drop_eq_nil_iff.2 h
    have : k = s.length := by omega
    rw [h2, this]; simp [fit]
theorem fit_star {s a : List _} {k : Nat} {c : UInt8} (hc : s[k]? = some c) : fit (-1 :: a) (s.drop k) = (fit a (s.drop k) || fit (-1 :: a) (s.drop (k + 1))) := by
  rw [drop_cons hc]; simp [fit, fitStar]
theorem fit_star_end {s : List UInt8} {a : List Int} {k : Nat} (hk : s.length ≤ k) : fit (-1 :: a) (s.drop k) = fit a (s.drop k) := by
  rw [List.drop_eq_nil_iff.2 hk]; simp [fit, fitStar]
theorem fit_one {s : List UInt8} {a : List Int} {x : Int} {k : Nat} {c : UInt8} (hx : x ≠ -1) (hc : s[k]? = some c) : fit (x :: a) (s.drop k) = ((x == -2 || x == (c.toNat : Int)) && fit a (s.drop (k + 1))) := by
  rw [drop_cons hc]; simp [fit, hx]
theorem fit_one_end {s : List UInt8} {a : List Int} {x : Int} {k : Nat} (hx : x ≠ -1) (hk : s.length ≤ k) : fit (x :: a) (s.drop k) = false := by
  rw [List.drop_eq_nil_iff.2 hk]; simp [fit, hx]
/-- All rests of the text, by places. -/
def rowB (a : List Int) (s : List UInt8) : List Bool := (List.range (s.length + 1)).map fun k => fit a (s.drop k)
def rowS (b : List Bool) : SV := .sl 1 (b.map bool)
/-- From j on. -/
def rowP (a : List Int) (s : List UInt8) (j : Nat) : List Bool := (List.range (s.length + 1)).map fun k => if k < j then false else fit a (s.drop k)
theorem rowP_zero (a : List Int) (s : List UInt8) : rowP a s 0 = rowB a s := by unfold rowP rowB; simp
theorem rowP_all (a : List Int) (s : List UInt8) : rowP a s (s.length + 1) = List.replicate (s.length + 1) false := by
  unfold rowP
  apply List.ext_getElem (by simp)
  intro i h1 h2
  simp at h1 h2
  simp [h2]
theorem rowP_len (a : List Int) (s : List UInt8) (j : Nat) : (rowP a s j).length = s.length + 1 := by unfold rowP; simp
theorem rowB_len (a : List Int) (s : List UInt8) : (rowB a s).length = s.length + 1 := by unfold rowB; simp
theorem set_range {α : Type} (f : Nat → α) (n i : Nat) (x : α) : ((List.range n).map f).set i x = (List.range n).map fun m => if m = i then x else f m := by
  apply List.ext_getElem (by simp)
  intro m h1 h2
  simp at h1 h2
  rw [List.getElem_set]
  simp only [List.getElem_map, List.getElem_range]
  by_cases h : i = m
  · subst h; simp
  · rw [if_neg h, if_neg (fun e => h e.symm)]
theorem rowP_set {a : List Int} {s : List UInt8} {k : Nat} (b : Bool) (hb : b = fit a (s.drop k)) : (rowP a s (k + 1)).set k b = rowP a s k := by
  unfold rowP
  rw [set_range]
  apply List.map_congr_left
  intro m _
  by_cases h1 : m = k
  · subst h1; rw [if_pos rfl, if_neg (by omega)]; exact hb
  · rw [if_neg h1]
    by_cases h2 : m < k
    · rw [if_pos (by omega), if_pos h2]
    · rw [if_neg (by omega), if_neg h2]
theorem rowP_get {a : List Int} {s : List UInt8} {j k : Nat} (hk : k ≤ s.length) (hj : j ≤ k) : (rowP a s j)[k]? = some (fit a (s.drop k)) := by
  unfold rowP
  rw [List.getElem?_map, List.getElem?_range (by omega)]
  simp; omega
theorem rowP_get' {a : List Int} {s : List UInt8} {j k : Nat} (hk : k ≤ s.length) : (rowP a s j)[k]? = some (if k < j then false else fit a (s.drop k)) := by
  unfold rowP
  rw [List.getElem?_map, List.getElem?_range (by omega)]
  simp
theorem rowB_get {a : List Int} {s : List UInt8} {k : Nat} (hk : k ≤ s.length) : (rowB a s)[k]? = some (fit a (s.drop k)) := by
  unfold rowB
  rw [List.getElem?_map, List.getElem?_range (by omega)]
  simp
theorem bmap_set (l : List Bool) (k : Nat) (b : Bool) : (l.map bool).set k (bool b) = (l.set k b).map bool := by rw [List.map_set]
theorem bget_map {l : List Bool} {k : Nat} {b : Bool} (h : l[k]? = some b) : (l.map bool)[k]? = some (bool b) := by rw [List.getElem?_map, h]; rfl
/-- The table: from row j on. -/
def tabL (a : List Int) (s : List UInt8) (j : Nat) : List SV := (List.range (a.length + 1)).map fun i => if i < j then .raw (.slice none 0 0) else rowS (rowB (a.drop i) s)
theorem tab_len (a : List Int) (s : List UInt8) (j : Nat) : (tabL a s j).length = a.length + 1 := by unfold tabL; simp
theorem tab_all (a : List Int) (s : List UInt8) : tabL a s (a.length + 1) = List.replicate (a.length + 1) (.raw (.slice none 0 0)) := by
  unfold tabL
  apply List.ext_getElem (by simp)
  intro i h1 h2
  simp at h1 h2
  simp [h2]
theorem tab_set {a : List Int} {s : List UInt8} {i : Nat} : (tabL a s (i + 1)).set i (rowS (rowB (a.drop i) s)) = tabL a s i := by
  unfold tabL
  rw [set_range]
  apply List.map_congr_left
  intro m _
  by_cases h1 : m = i
  · subst h1; rw [if_pos rfl, if_neg (by omega)]
  · rw [if_neg h1]
    by_cases h2 : m < i
    · rw [if_pos (by omega), if_pos h2]
    · rw [if_neg (by omega), if_neg h2]
theorem tab_get {a : List Int} {s : List UInt8} {i j : Nat} (hi : i ≤ a.length) (hj : j ≤ i) : (tabL a s j)[i]? = some (rowS (rowB (a.drop i) s)) := by
  unfold tabL
  rw [List.getElem?_map, List.getElem?_range (by omega)]
  simp; omega
theorem fzl_set (L : List SV) (i k n : Nat) (l : List SV) : ((L.map LV.sv).set i (.own k)).map (fzl k n l) = (L.set i (.sl n l)).map LV.sv := by
  rw [List.map_set, fzl_sv, List.map_set]; simp [fzl]
theorem sv_set_get {L : List SV} {i : Nat} {x : LV} (h : i < L.length) : ((L.map LV.sv).set i x)[i]? = some x := by
  rw [List.getElem?_set, if_pos rfl, if_pos (by simpa using h)]
theorem sv_set_ne {L : List SV} {i m : Nat} {x : LV} {s : SV} (hne : i ≠ m) (h : L[m]? = some s) : ((L.map LV.sv).set i x)[m]? = some (.sv s) := by
  rw [List.getElem?_set, if_neg hne, List.getElem?_map, h]; rfl
/-- What the stars stand for, in order. -/
def starN (a : List Int) : List UInt8 → Nat
  | [] => 0
  | c :: s => if fit a (c :: s) then 0 else starN a s + 1
def partsG : List Int → List UInt8 → List (List UInt8)
  | [], _ => []
  | x :: a, s => if x = -1 then s.take (starN a s) :: partsG a (s.drop (starN a s)) else partsG a (s.drop 1)
theorem starN_here {a : List Int} {s : List UInt8} (h : fit a s = true) : starN a s = 0 := by
  cases s with
  | nil => rfl
  | cons c s => simp [starN, h]
theorem starN_step {a : List Int} {s : List UInt8} {n : Nat} {c : UInt8} (hc : s[n]? = some c) (h : fit a (s.drop n) = false) : starN a (s.drop n) = starN a (s.drop (n + 1)) + 1 := by
  rw [drop_cons hc] at h ⊢
  simp [starN, h]
def partsV (a : List Int) (s : List UInt8) : SV := if fit a s then .tup [.sl 1 ((partsG a s).map fun p => str ⟨p.toArray⟩), bool true] else .tup [.raw (.slice none 0 0), bool false]
end Go.Ring
