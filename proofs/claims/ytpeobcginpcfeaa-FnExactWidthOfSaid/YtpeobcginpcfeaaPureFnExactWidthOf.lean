/- The given program's WidthOf and the reference's return the same number, for every base and every level: both are 0 outside of the bounds, and else the base, as often tripled as the level says. No condition. -/
import Derived.Test.YtpeobcginpcfeaaPFnExactWidthOfx1
namespace Go.Proofs.Ytpeobcginpcfeaa.Pure
open Go.RowKit Go.Proofs.Ytpeobcginpcfeaa.PFnExactWidthOf Go.Proofs.YtpeobcginpcfeaaW.PrintWords Go.Proofs.YtpeobcginpcfeaaW.PrintLast

theorem FnExactWidthOf : laws_FnExactWidthOf.Pure := by
  intro a0 a1 _ _
  refine ⟨10, ?_⟩
  have same : spec_WidthOf.f 10 a0 a1 = impl_WidthOf.f 10 a0 a1 ∧ ∃ r, impl_WidthOf.f 10 a0 a1 = some r := by
    unfold spec_WidthOf.f impl_WidthOf.f
    by_cases h1 : a0 < 1
    · simp [h1, spec_WidthOf.j0, impl_WidthOf.j0]
    · by_cases h2 : a0 > 1000000
      · simp [h1, h2, spec_WidthOf.j0, impl_WidthOf.j0]
      · by_cases h3 : a1 < 1
        · simp [h1, h2, h3, spec_WidthOf.j0, impl_WidthOf.j0]
        · by_cases h4 : a1 > 4
          · simp [h1, h2, h3, h4, spec_WidthOf.j0, impl_WidthOf.j0]
          · have h5 : a1 = 1 ∨ a1 = 2 ∨ a1 = 3 ∨ a1 = 4 := by omega
            rcases h5 with rfl | rfl | rfl | rfl <;>
              simp [h1, h2, spec_WidthOf.j0, impl_WidthOf.j0, spec_WidthOf.l0, impl_WidthOf.l0, wrap64]
  obtain ⟨e, r, hr⟩ := same
  unfold laws_FnExactWidthOf.f
  rw [e, hr]
  simp

end Go.Proofs.Ytpeobcginpcfeaa.Pure
