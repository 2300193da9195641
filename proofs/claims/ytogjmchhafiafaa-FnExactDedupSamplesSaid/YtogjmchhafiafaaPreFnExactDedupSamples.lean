/- The law FnExactDedupSamples: what is known of each argument that came in, and the pure statement (whatever the arguments are, the law's Lean function says true). -/
import Derived.Test.YtogjmchhafiafaaPFnExactDedupSamplesx6
import Derived.Test.YtogjmchhafiafaaOpen
import Derived.KernelRfl
namespace Go.Proofs.Ytogjmchhafiafaa.PreFnExactDedupSamples
open Go.RowKit Go.Proofs.Ytogjmchhafiafaa.PFnExactDedupSamples Go.Proofs.YtogjmchhafiafaaW.PrintWords Go.Proofs.YtogjmchhafiafaaW.PrintLast Go.Proofs.Ytogjmchhafiafaa.Open
set_option linter.unusedVariables false
/-- What is known of a value of type 83 that came in. -/
def Wf83 (x : S83) : Prop := (Lit.int .i64 x.f0).wf = true ∧ (Lit.int .i64 x.f1).wf = true
theorem op_k83 : Opens Try.prog 83 k83 Wf83 :=
  op_mono (op_iso _ (fun p => ⟨p.1, p.2⟩) (fun _ => rfl) (op_struct Try.underlying83 (by kernel_rfl) (ofs_cons rfl (by kernel_rfl) (op_int Try.underlying3) (ofs_one rfl (by kernel_rfl) (op_int Try.underlying3))))) (fun _ h => h)
def Law.Pure : Prop := ∀ (a0 : List S83), ∀ (a1 : List S83), ∀ (a2 : Int), (a0.length ≤ 9223372036854775807 ∧ ∀ x, x ∈ a0 → Wf83 x) → (a1.length ≤ 9223372036854775807 ∧ ∀ x, x ∈ a1 → Wf83 x) → (Lit.int .i64 a2).wf = true → ∃ k, laws_FnExactDedupSamples.f k a0 a1 a2 = some true
end Go.Proofs.Ytogjmchhafiafaa.PreFnExactDedupSamples
