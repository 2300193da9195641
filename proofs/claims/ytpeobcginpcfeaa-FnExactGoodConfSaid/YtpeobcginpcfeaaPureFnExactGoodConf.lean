/- The given program's GoodConf and the reference's say the same of every configuration: the same four tests, put together in the same order. No condition. -/
import Derived.Test.YtpeobcginpcfeaaPreFnExactGoodConf
namespace Go.Proofs.Ytpeobcginpcfeaa.Pure
open Go.RowKit Go.Proofs.Ytpeobcginpcfeaa.PFnExactGoodConf Go.Proofs.YtpeobcginpcfeaaW.PrintWords Go.Proofs.YtpeobcginpcfeaaW.PrintLast Go.Proofs.Ytpeobcginpcfeaa.Open Go.Proofs.Ytpeobcginpcfeaa.PreFnExactGoodConf

theorem time_some (x : Int) : ∃ b, impl_isTime.f x = some b := by unfold impl_isTime.f; split <;> exact ⟨_, rfl⟩

theorem conf_same (a b c d : Int) : spec_GoodConf.f a b c d = impl_GoodConf.f a b c d ∧ ∃ r, impl_GoodConf.f a b c d = some r := by
  have e : ∀ x, spec_l3Time.f x = impl_isTime.f x := fun _ => rfl
  obtain ⟨t, ht⟩ := time_some a
  obtain ⟨u, hu⟩ := time_some d
  unfold spec_GoodConf.f impl_GoodConf.f impl_goodWindow.f
  rw [e, e, ht, hu]
  cases t <;> simp only [Option.bind_some, if_true, Bool.false_eq_true, if_false]
  · simp
  · by_cases h1 : b ≥ 0
    · by_cases h2 : b ≤ 200
      · by_cases h3 : c ≥ 1
        · by_cases h4 : c ≤ 1000000 <;> simp [h1, h2, h3, h4]
        · simp [h1, h2, h3]
      · simp [h1, h2]
    · simp [h1]

theorem FnExactGoodConf : Law.Pure := by
  intro a _
  unfold laws_FnExactGoodConf.f laws_toStoreConf.f
  simp only [Option.bind_some]
  obtain ⟨e, r, hr⟩ := conf_same a.f0 a.f1 a.f2 a.f3
  rw [e, hr]
  simp

end Go.Proofs.Ytpeobcginpcfeaa.Pure
