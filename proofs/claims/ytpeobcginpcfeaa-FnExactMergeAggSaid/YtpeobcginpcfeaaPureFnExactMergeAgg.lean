/- The given program's MergeAgg and the reference's give the same window, for every two windows: sums wrap alike in whatever order they are taken. No condition. -/
import Derived.Test.YtpeobcginpcfeaaPreFnExactMergeAgg
namespace Go.Proofs.Ytpeobcginpcfeaa.Pure
open Go.RowKit Go.Proofs.Ytpeobcginpcfeaa.PFnExactMergeAgg Go.Proofs.YtpeobcginpcfeaaW.PrintWords Go.Proofs.YtpeobcginpcfeaaW.PrintLast Go.Proofs.YtpeobcginpcfeaaW.PrintMore Go.Proofs.Ytpeobcginpcfeaa.Open Go.Proofs.Ytpeobcginpcfeaa.PreFnExactMergeAgg
set_option linter.unusedVariables false
set_option linter.unusedSimpArgs false

theorem rise_some (a b : Int) : ∃ t, impl_riseOver.f a b = some t ∧ spec_l11Rise.f a b = some t := by
  unfold impl_riseOver.f spec_l11Rise.f
  by_cases h : b ≥ a
  · exact ⟨_, by rw [if_pos h], by rw [if_pos h]⟩
  · exact ⟨_, by rw [if_neg h], by rw [if_neg h]⟩
theorem turn (x y t : Int) : wrap64 (wrap64 (x + t) + y) = wrap64 (wrap64 (x + y) + t) := by
  unfold wrap64
  omega
theorem merge_same (a0 a1 a2 a3 a4 a5 a6 a7 b0 b1 b2 b3 b4 b5 b6 b7 : Int) : spec_MergeAgg.f 5 a0 a1 a2 a3 a4 a5 a6 a7 b0 b1 b2 b3 b4 b5 b6 b7 = impl_MergeAgg.f a0 a1 a2 a3 a4 a5 a6 a7 b0 b1 b2 b3 b4 b5 b6 b7 ∧ ∃ r, impl_MergeAgg.f a0 a1 a2 a3 a4 a5 a6 a7 b0 b1 b2 b3 b4 b5 b6 b7 = some r := by
  obtain ⟨t, h1, h2⟩ := rise_some a6 b5
  unfold spec_MergeAgg.f impl_MergeAgg.f
  simp only [spec_MergeAgg.j0, spec_MergeAgg.j1, h1, h2, Option.bind_some]
  refine ⟨?_, _, rfl⟩
  unfold mn mx
  rw [turn]
  by_cases c1 : b3 < a3
  · by_cases c2 : b4 > a4
    · have c3 : a4 < b4 := c2
      simp only [if_pos c1, if_pos c2, if_pos c3]
    · have c3 : ¬ a4 < b4 := c2
      simp only [if_pos c1, if_neg c2, if_neg c3]
  · by_cases c2 : b4 > a4
    · have c3 : a4 < b4 := c2
      simp only [if_neg c1, if_pos c2, if_pos c3]
    · have c3 : ¬ a4 < b4 := c2
      simp only [if_neg c1, if_neg c2, if_neg c3]

theorem FnExactMergeAgg : Law.Pure := by
  intro a b _ _
  refine ⟨5, ?_⟩
  obtain ⟨e, ⟨r0, r1, r2, r3, r4, r5, r6, r7⟩, hr⟩ := merge_same a.f0 a.f1 a.f2 a.f3 a.f4 a.f5 a.f6 a.f7 b.f0 b.f1 b.f2 b.f3 b.f4 b.f5 b.f6 b.f7
  unfold laws_FnExactMergeAgg.f laws_toAgg.f
  simp only [Option.bind_some, e, hr]
  unfold laws_eqAgg.f
  simp

end Go.Proofs.Ytpeobcginpcfeaa.Pure
