/- Small lemmas for the plain proofs: 'with enough rounds it answers r' (Ev), whole numbers that do not wrap, lists read and written at a place in the middle. No condition. -/
import Derived.Test.YtppifefhpjhmaaaWWords
import Derived.Test.YtppifefhpjhmaaaWMore
namespace Go.Proofs.Ytppifefhpjhmaaa.Kit
open Go.RowKit Go.Proofs.YtppifefhpjhmaaaW.PrintWords Go.Proofs.YtppifefhpjhmaaaW.PrintMore
set_option linter.unusedVariables false
set_option linter.unusedSimpArgs false

theorem ev_succ {α : Type} {g : Nat → Option α} {r : α} (h : Ev (fun k => g (k + 1)) r) : Ev g r := Ev.step (fun _ => rfl) h
theorem ev_now {α : Type} {g : Nat → Option α} {r : α} (h : ∀ k, g k = some r) : Ev g r := ⟨0, fun k _ => h k⟩
theorem ev_eq {α : Type} {g : Nat → Option α} {r s : α} (h : Ev g r) (e : r = s) : Ev g s := e ▸ h
theorem ev_bind {α β : Type} {g : Nat → Option α} {f : Nat → α → Option β} {a : α} {r : β} (h : Ev g a) (k : Ev (fun n => f n a) r) : Ev (fun n => (g n).bind (f n)) r := Ev.bind h k
theorem ev_fun {α : Type} {g : Nat → Option α} {r s : α} (h : Ev g r) (h' : Ev g s) : r = s := by
  obtain ⟨K, hK⟩ := h
  obtain ⟨L, hL⟩ := h'
  have a := hK (max K L) (Nat.le_max_left _ _)
  have b := hL (max K L) (Nat.le_max_right _ _)
  rw [a] at b
  exact Option.some.inj b
theorem w64 {x : Int} (h : -9223372036854775808 ≤ x) (h' : x ≤ 9223372036854775807) : wrap64 x = x := by
  unfold wrap64
  omega
theorem wu64 {x : Int} (h : 0 ≤ x) (h' : x ≤ 18446744073709551615) : IntKind.u64.wrap x = x := by
  simp only [IntKind.wrap, IntKind.bits, IntKind.signed]
  simp
  omega
theorem w64_succ {i n : Nat} (h : i < n) (hn : n ≤ 9223372036854775807) : wrap64 ((i : Int) + 1) = ((i + 1 : Nat) : Int) := by
  rw [w64 (by omega) (by omega)]; omega
theorem w64_lit {a b : Int} (h : wrap64 a = b) : wrap64 a = b := h
theorem wf_i64 {x : Int} (h : (Lit.int .i64 x).wf = true) : -9223372036854775808 ≤ x ∧ x ≤ 9223372036854775807 := by
  have h1 : IntKind.i64.min = -9223372036854775808 := rfl
  have h2 : IntKind.i64.max = 9223372036854775807 := rfl
  simp only [Lit.wf, Bool.and_eq_true, decide_eq_true_eq, h1, h2] at h
  exact h
/-- From the end of a list downwards. -/
theorem down {P : Nat → Prop} {n : Nat} (h0 : P n) (hs : ∀ i, i < n → P (i + 1) → P i) : ∀ i, i ≤ n → P i := by
  intro i hi
  obtain ⟨d, hd⟩ : ∃ d, d = n - i := ⟨_, rfl⟩
  induction d generalizing i with
  | zero => obtain rfl : i = n := by omega
            exact h0
  | succ d ih => exact hs i (by omega) (ih (i + 1) (by omega) (by omega))
/-- p holds at every place from i on. -/
def allFrom (p : Nat → Bool) (n i : Nat) : Bool := (List.range n).all fun j => decide (j < i) || p j
theorem allFrom_end (p : Nat → Bool) (n : Nat) : allFrom p n n = true := by
  unfold allFrom
  rw [List.all_eq_true]
  intro j hj
  simp [List.mem_range.1 hj]
theorem allFrom_iff {p : Nat → Bool} {n i : Nat} : allFrom p n i = true ↔ ∀ j, i ≤ j → j < n → p j = true := by
  unfold allFrom
  rw [List.all_eq_true]
  constructor
  · intro h j h1 h2
    have := h j (List.mem_range.2 h2)
    simp only [Bool.or_eq_true, decide_eq_true_eq] at this
    rcases this with h3 | h3
    · omega
    · exact h3
  · intro h j hj
    simp only [Bool.or_eq_true, decide_eq_true_eq]
    by_cases h3 : j < i
    · exact .inl h3
    · exact .inr (h j (by omega) (List.mem_range.1 hj))
theorem allFrom_step {p : Nat → Bool} {n i : Nat} (h : i < n) : allFrom p n i = (p i && allFrom p n (i + 1)) := by
  rw [Bool.eq_iff_iff, Bool.and_eq_true, allFrom_iff, allFrom_iff]
  constructor
  · intro h1
    exact ⟨h1 i (Nat.le_refl _) h, fun j a b => h1 j (by omega) b⟩
  · rintro ⟨h1, h2⟩ j a b
    by_cases e : j = i
    · subst e; exact h1
    · exact h2 j (by omega) b
theorem set_mid {α : Type} (pre rest : List α) (x y : α) : (pre ++ x :: rest).set pre.length y = (pre ++ [y]) ++ rest := by
  rw [List.set_append_right _ _ (Nat.le_refl _)]
  simp
theorem getD_mid {α : Type} (pre rest : List α) (x d : α) : (pre ++ x :: rest).getD pre.length d = x := by
  simp [List.getD_eq_getElem?_getD, List.getElem?_append_right]
theorem getD_at {α : Type} (xs : List α) (i : Nat) (d : α) (h : i < xs.length) : xs.getD i d = xs[i] := by
  simp [List.getD_eq_getElem?_getD, List.getElem?_eq_getElem h]
theorem len_mid {α : Type} (pre rest : List α) (x : α) : ((pre.length : Nat) : Int) < ((pre ++ x :: rest).length : Int) := by
  rw [List.length_append, List.length_cons]; omega
theorem len_succ {α : Type} (pre : List α) (y : α) : (((pre ++ [y]).length : Nat) : Int) = (pre.length : Int) + 1 := by
  rw [List.length_append]; simp
theorem mid_assoc {α : Type} (pre rest : List α) (x : α) : pre ++ x :: rest = (pre ++ [x]) ++ rest := by simp
end Go.Proofs.Ytppifefhpjhmaaa.Kit
