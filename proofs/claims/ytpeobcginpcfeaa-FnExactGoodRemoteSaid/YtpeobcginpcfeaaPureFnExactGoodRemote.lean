/- The given program's GoodRemote and the reference's say the same of every configuration: five numbers, each within its bounds. No condition. -/
import Derived.Test.YtpeobcginpcfeaaPreFnExactGoodRemote
namespace Go.Proofs.Ytpeobcginpcfeaa.Pure
open Go.RowKit Go.Proofs.Ytpeobcginpcfeaa.PFnExactGoodRemote Go.Proofs.YtpeobcginpcfeaaW.PrintWords Go.Proofs.YtpeobcginpcfeaaW.PrintLast Go.Proofs.Ytpeobcginpcfeaa.Open Go.Proofs.Ytpeobcginpcfeaa.PreFnExactGoodRemote

set_option linter.unusedSimpArgs false
theorem within (n lo hi : Int) : impl_GoodRemote_1.f n lo hi = some (decide (lo ≤ n ∧ n ≤ hi)) := by
  unfold impl_GoodRemote_1.f
  by_cases h : n ≥ lo <;> simp [h, decide_eq_decide] <;> omega

theorem remote_same (a b c d e : Int) : spec_GoodRemote.f a b c d e = impl_GoodRemote.f a b c d e ∧ ∃ r, impl_GoodRemote.f a b c d e = some r := by
  unfold spec_GoodRemote.f impl_GoodRemote.f
  simp only [within, Option.bind_some, decide_eq_true_eq]
  constructor
  · repeat' split
    all_goals (first | rfl | omega | (congr 1; rw [decide_eq_decide]; omega) | (simp; omega))
  · repeat' split
    all_goals exact ⟨_, rfl⟩

theorem FnExactGoodRemote : Law.Pure := by
  intro a _
  unfold laws_FnExactGoodRemote.f laws_toRemoteConf.f
  simp only [Option.bind_some]
  obtain ⟨e, r, hr⟩ := remote_same a.f0 a.f1 a.f2 a.f3 a.f4
  rw [e, hr]
  simp

end Go.Proofs.Ytpeobcginpcfeaa.Pure
