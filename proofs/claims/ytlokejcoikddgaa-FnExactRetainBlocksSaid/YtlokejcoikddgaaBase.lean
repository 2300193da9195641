/- Plain values' names, and what is told of sizes, of rows that are filled. No condition. -/
import Derived.Test.YtlokejcoikddgaaAbsOpen
import Derived.Test.YtlokejcoikddgaaAbsRes
import Derived.KernelRfl
namespace Go.Ring
open Go Go.RowKit Go.Eager Go.Abs
set_option linter.unusedVariables false
@[reducible] def int (x : Int) : SV := .raw (.int .i64 x)
@[reducible] def byt (b : UInt8) : SV := .raw (.int .u8 b.toNat)
@[reducible] def str (s : ByteArray) : SV := .raw (.string s)
@[reducible] def bool (b : Bool) : SV := .raw (.bool b)
@[reducible] def ints (l : List Int) : SV := .sl 1 (l.map int)
open Classical in
noncomputable def pB (p : Prop) : Bool := decide p
theorem pB_true {p : Prop} (h : p) : pB p = true := by simp [pB, h]
theorem pB_false {p : Prop} (h : ¬ p) : pB p = false := by simp [pB, h]
theorem pB_iff {p q : Prop} (h : p ↔ q) : pB p = pB q := by unfold pB; rw [decide_eq_decide]; exact h
theorem of_pB {p : Prop} (h : pB p = true) : p := by simpa [pB] using h
theorem of_pBf {p : Prop} (h : pB p = false) : ¬ p := by simpa [pB] using h
theorem mget {α : Type} {f : α → SV} {l : List α} {i : Nat} {n : α} (h : l[i]? = some n) : (l.map f)[i]? = some (f n) := by rw [List.getElem?_map, h]; rfl
theorem sget {α : Type} {l : List α} {i : Nat} (h : i < l.length) : ∃ x, l[i]? = some x := ⟨_, List.getElem?_eq_getElem h⟩
theorem smem {α : Type} {l : List α} {i : Nat} {x : α} (h : l[i]? = some x) : x ∈ l := List.mem_of_getElem? h
theorem slt {α : Type} {l : List α} {i : Nat} {x : α} (h : l[i]? = some x) : i < l.length := (List.getElem?_eq_some_iff.1 h).1
theorem op_at {P : Program} {t t' : TypeId} {α : Type} {E : α → SV} {F : α → Prop} (h : t = t') (o : Opens P t E F) : Opens P t' E F := h ▸ o

/-- What is left of n when m is taken: −1 if that is less than none. -/
def take (n m : Int) : Int := if n - m < 0 then -1 else n - m
def LB (l : Nat) : Prop := l ≤ 9223372036854775807
/-- Never more than the bulk; −1 when there is not enough; where there is, S. -/
def GOk (f : Int → Int) (S : Prop) : Prop := ∀ n, n ≤ 1048576 → f n ≤ 1048576 ∧ (f n < 0 → f n = -1) ∧ (0 ≤ f n → S)
theorem take_ok (m : Nat) : GOk (fun n => take n m) (m ≤ 1048576) := by
  intro n hn; simp only [take]; split <;> refine ⟨?_, ?_, ?_⟩ <;> omega
def stp (f g : Int → Int) (n : Int) : Int := if f n < 0 then -1 else g (f n)
theorem stp_ok {f g : Int → Int} {A B : Prop} (hf : GOk f A) (hg : GOk g B) : GOk (stp f g) (A ∧ B) := by
  intro n hn
  obtain ⟨h1, h2, h3⟩ := hf n hn
  obtain ⟨h4, h5, h6⟩ := hg _ h1
  unfold stp
  split
  · refine ⟨by omega, fun _ => rfl, fun h => by omega⟩
  · exact ⟨h4, h5, fun h => ⟨h3 (by omega), h6 h⟩⟩
theorem GOk.mono {f : Int → Int} {A B : Prop} (h : GOk f A) (hab : A → B) : GOk f B := fun n hn => ⟨(h n hn).1, (h n hn).2.1, fun h' => hab ((h n hn).2.2 h')⟩
theorem take_pos {n m : Int} (h : n - m < 0) : take n m = -1 := by unfold take; rw [if_pos h]
theorem take_neg {n m : Int} (h : ¬ n - m < 0) : take n m = n - m := by unfold take; rw [if_neg h]
theorem stp_pos {f g : Int → Int} {n : Int} (h : f n < 0) : stp f g n = -1 := by unfold stp; rw [if_pos h]
theorem stp_neg {f g : Int → Int} {n : Int} (h : ¬ f n < 0) : stp f g n = g (f n) := by unfold stp; rw [if_neg h]
def szAll {α : Type} (f : α → Int → Int) : List α → Int → Int
  | [], n => n
  | x :: l, n => if f x n < 0 then -1 else szAll f l (f x n)
theorem szAll_cons {α : Type} (f : α → Int → Int) {l : List α} {k : Nat} {x : α} (h : l[k]? = some x) (n : Int) : szAll f (l.drop k) n = if f x n < 0 then -1 else szAll f (l.drop (k + 1)) (f x n) := by
  obtain ⟨hlt, he⟩ := List.getElem?_eq_some_iff.1 h
  rw [List.drop_eq_getElem_cons hlt, he]; rfl
theorem szAll_end {α : Type} (f : α → Int → Int) {l : List α} {k : Nat} (h : l.length ≤ k) (n : Int) : szAll f (l.drop k) n = n := by rw [List.drop_of_length_le h]; rfl
def szSl {α : Type} (f : α → Int → Int) (l : List α) (n : Int) : Int := if take n l.length < 0 then -1 else szAll f l (take n l.length)
theorem szSl_pos {α : Type} {f : α → Int → Int} {l : List α} {n : Int} (h : n - l.length < 0) : szSl f l n = -1 := by unfold szSl; rw [take_pos h]; rfl
theorem szSl_neg {α : Type} {f : α → Int → Int} {l : List α} {n : Int} (h : ¬ n - l.length < 0) : szSl f l n = szAll f l (n - l.length) := by unfold szSl; rw [take_neg h, if_neg h]
theorem szAll_le {α : Type} {f : α → Int → Int} {S : α → Prop} (hf : ∀ x, GOk (f x) (S x)) : ∀ (l : List α) (n : Int), n ≤ 1048576 → szAll f l n ≤ 1048576 ∧ (szAll f l n < 0 → n < 0 ∨ szAll f l n = -1) ∧ (0 ≤ szAll f l n → ∀ x ∈ l, S x)
  | [], n, hn => ⟨hn, fun h => .inl h, fun _ x hx => by simp at hx⟩
  | y :: l, n, hn => by
    obtain ⟨h1, h2, h3⟩ := hf y n hn
    obtain ⟨h4, h5, h6⟩ := szAll_le hf l _ h1
    unfold szAll
    split
    · exact ⟨by omega, fun _ => .inr rfl, fun h => by omega⟩
    · rename_i hy
      refine ⟨h4, fun h => .inr ((h5 h).resolve_left hy), fun h x hx => ?_⟩
      rcases List.mem_cons.1 hx with rfl | hx
      · exact h3 (by omega)
      · exact h6 h x hx
theorem szSl_ok {α : Type} {f : α → Int → Int} {S : α → Prop} (hf : ∀ x, GOk (f x) (S x)) (l : List α) : GOk (szSl f l) (l.length ≤ 1048576 ∧ ∀ x ∈ l, S x) := by
  intro n hn
  by_cases h : n - l.length < 0
  · rw [szSl_pos h]; refine ⟨by omega, fun _ => rfl, fun h => by omega⟩
  · rw [szSl_neg h]
    obtain ⟨h4, h5, h6⟩ := szAll_le hf l (n - l.length) (by omega)
    exact ⟨h4, fun h' => (h5 h').resolve_left h, fun h' => ⟨by omega, h6 h'⟩⟩

/-- A row, filled up to k. -/
def fill {α : Type} (f : α → SV) (z : SV) (xs : List α) (k : Nat) : List SV := (xs.take k).map f ++ List.replicate (xs.length - k) z
theorem fill_zero {α : Type} (f : α → SV) (z : SV) (xs : List α) : fill f z xs 0 = List.replicate xs.length z := by simp [fill]
theorem fill_all {α : Type} (f : α → SV) (z : SV) (xs : List α) {k : Nat} (h : xs.length ≤ k) : fill f z xs k = xs.map f := by simp [fill, List.take_of_length_le h, Nat.sub_eq_zero_of_le h]
theorem fill_len {α : Type} (f : α → SV) (z : SV) (xs : List α) {k : Nat} (h : k ≤ xs.length) : (fill f z xs k).length = xs.length := by simp [fill]; omega
theorem fill_get {α : Type} (f : α → SV) (z : SV) (xs : List α) {k : Nat} (h : k < xs.length) : (fill f z xs k)[k]? = some z := by
  unfold fill
  rw [List.getElem?_append_right (by simp; omega), List.getElem?_replicate, if_pos (by simp; omega)]
theorem fill_set {α : Type} (f : α → SV) (z : SV) {xs : List α} {k : Nat} {x : α} (h : xs[k]? = some x) : (fill f z xs k).set k (f x) = fill f z xs (k + 1) := by
  have hlt := slt h
  unfold fill
  rw [List.set_append_right _ _ (by simp; omega), List.take_add_one, h, List.map_append, List.append_assoc]
  congr 1
  rw [show k - ((xs.take k).map f).length = 0 by simp; omega, show xs.length - k = (xs.length - (k + 1)) + 1 by omega, List.replicate_succ]
  rfl
end Go.Ring
