/- The law FnExactDownSamples: what is known of each argument that came in, and the pure statement (whatever the arguments are, the law's Lean function says true). -/
import Derived.Test.YtogjmchhafiafabPFnExactDownSamplesx8
import Derived.Test.YtogjmchhafiafabVFnExactDownSamples
import Derived.KernelRfl
namespace Go.Proofs.Ytogjmchhafiafab.PreFnExactDownSamples
open Go.RowKit Go.Proofs.Ytogjmchhafiafab.PFnExactDownSamples Go.Proofs.YtogjmchhafiafabW.PrintWords Go.Proofs.YtogjmchhafiafabW.PrintLast Go.Proofs.Ytogjmchhafiafab.Open
set_option linter.unusedVariables false
/-- What is known of a value of type 83 that came in. -/
def Wf83 (x : S83) : Prop := (Lit.int .i64 x.f0).wf = true ∧ (Lit.int .i64 x.f1).wf = true
theorem op_k83 : Opens Try.prog 83 k83 Wf83 :=
  op_mono (op_iso _ (fun p => ⟨p.1, p.2⟩) (fun _ => rfl) (op_struct Try.underlying83 (by kernel_rfl) (ofs_cons rfl (by kernel_rfl) (op_int Try.underlying3) (ofs_one rfl (by kernel_rfl) (op_int Try.underlying3))))) (fun _ h => h)
def Law.Pure : Prop := ∀ (a0 : List S83), ∀ (a1 : Int), (a0.length ≤ 9223372036854775807 ∧ ∀ x, x ∈ a0 → Wf83 x) → (Lit.int .i64 a1).wf = true → ∃ k, laws_FnExactDownSamples.f k a0 a1 = some true
end Go.Proofs.Ytogjmchhafiafab.PreFnExactDownSamples
