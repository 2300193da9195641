/- The given program's Quotient and the reference's return the same number, for every pair of numbers: where something is left over, the remainder has the dividend's sign. No condition. -/
import Derived.Test.YtpeobcginpcfeaaPFnExactQuotientx1
namespace Go.Proofs.Ytpeobcginpcfeaa.Pure
open Go.RowKit Go.Proofs.Ytpeobcginpcfeaa.PFnExactQuotient Go.Proofs.YtpeobcginpcfeaaW.PrintWords Go.Proofs.YtpeobcginpcfeaaW.PrintLast

theorem tmod_sign (a b : Int) (h : Int.tmod a b ≠ 0) : Int.tmod a b < 0 ↔ a < 0 := by
  constructor
  · intro h1
    by_cases h2 : 0 ≤ a
    · have := Int.tmod_nonneg b h2
      omega
    · omega
  · intro h1
    have h2 : 0 ≤ Int.tmod (-a) b := Int.tmod_nonneg b (by omega)
    rw [Int.neg_tmod] at h2
    omega

theorem FnExactQuotient : laws_FnExactQuotient.Pure := by
  intro a0 a1 _ _
  have same : spec_Quotient.f a0 a1 = impl_Quotient.f a0 a1 ∧ ∃ r, impl_Quotient.f a0 a1 = some r := by
    unfold spec_Quotient.f impl_Quotient.f
    by_cases h1 : a1 = 0
    · simp [h1]
    · by_cases h2 : Int.tmod a0 a1 = 0
      · simp [h1, h2]
      · have h3 := tmod_sign a0 a1 h2
        have h4 : decide (Int.tmod a0 a1 < 0) = decide (a0 < 0) := by rw [decide_eq_decide]; exact h3
        rw [if_neg h1, if_neg h2, if_neg h1, if_neg h2, h4]
        refine ⟨rfl, ?_⟩
        split <;> exact ⟨_, rfl⟩
  obtain ⟨e, r, hr⟩ := same
  unfold laws_FnExactQuotient.f
  rw [e, hr]
  simp

end Go.Proofs.Ytpeobcginpcfeaa.Pure
