/- Where the series stand that fit matchers; the law. No condition. -/
import Derived.Test.YtanilephcohjkaaGreatU1
import Derived.Test.YtanilephcohjkaaGreatA8
set_option maxRecDepth 100000
set_option linter.unusedVariables false
set_option linter.unusedSimpArgs false
namespace Go.Ring
open Go Go.RowKit Go.Eager Go.Abs Go.Proofs
theorem ok_le {Γ : Ctx} {c : Code} {σ σ' : St} {Q : Exit → St → Prop} (h : Le Γ σ' σ) (hok : Ok Γ c σ' Q) : Ok Γ c σ Q := fun a w I => hok a w (h a w I)
theorem val_size {l : List Label} (h : LabelsOk l) (n : ByteArray) : (valOf l n).size ≤ 100 := by
  have key : ∀ l : List Label, (∀ x ∈ l, x.value.size ≤ 100) → (valOf l n).size ≤ 100 := by
    intro l
    induction l with
    | nil => intro _; show (0 : Nat) ≤ 100; omega
    | cons x l ih =>
      intro hx
      unfold valOf
      split
      · exact hx x (List.mem_cons_self ..)
      · exact ih fun y hy => hx y (List.mem_cons_of_mem _ hy)
  refine key l fun x hx => ?_
  obtain ⟨i, hi⟩ := List.getElem?_of_mem hx
  have := (h.2 i x hi).2.1
  unfold valueB at this
  simp only [Bool.and_eq_true, decide_eq_true_eq] at this
  exact this.1.2
def lookF (ms : List Matcher) : List Series → Nat → List Int
  | [], _ => []
  | x :: l, k => if matB ms x.labels = true then (k : Int) :: lookF ms l (k + 1) else lookF ms l (k + 1)
theorem gms_all {ms : List Matcher} (h : gmsB ms = true) : ms.all gmB = true := by unfold gmsB at h; simp only [Bool.and_eq_true] at h; exact h.2
end Go.Ring
