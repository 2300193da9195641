/- The law FnExactDownAggs: what is known of each argument that came in, and the pure statement (whatever the arguments are, the law's Lean function says true). -/
import Derived.Test.YtppifefhpjhmaaaPFnExactDownAggsx10
import Derived.Test.YtppifefhpjhmaaaOpen
import Derived.KernelRfl
namespace Go.Proofs.Ytppifefhpjhmaaa.PreFnExactDownAggs
open Go.RowKit Go.Proofs.Ytppifefhpjhmaaa.PFnExactDownAggs Go.Proofs.YtppifefhpjhmaaaW.PrintWords Go.Proofs.YtppifefhpjhmaaaW.PrintLast Go.Proofs.Ytppifefhpjhmaaa.Open
set_option linter.unusedVariables false
/-- What is known of a value of type 78 that came in. -/
def Wf78 (x : S78) : Prop := (Lit.int .i64 x.f0).wf = true ∧ (Lit.int .i64 x.f1).wf = true ∧ (Lit.int .i64 x.f2).wf = true ∧ (Lit.int .i64 x.f3).wf = true ∧ (Lit.int .i64 x.f4).wf = true ∧ (Lit.int .i64 x.f5).wf = true ∧ (Lit.int .i64 x.f6).wf = true ∧ (Lit.int .i64 x.f7).wf = true
theorem op_k78 : Opens Try.prog 78 k78 Wf78 :=
  op_mono (op_iso _ (fun p => ⟨p.1, p.2.1, p.2.2.1, p.2.2.2.1, p.2.2.2.2.1, p.2.2.2.2.2.1, p.2.2.2.2.2.2.1, p.2.2.2.2.2.2.2⟩) (fun _ => rfl) (op_struct Try.underlying78 (by kernel_rfl) (ofs_cons rfl (by kernel_rfl) (op_int Try.underlying3) (ofs_cons rfl (by kernel_rfl) (op_int Try.underlying3) (ofs_cons rfl (by kernel_rfl) (op_int Try.underlying3) (ofs_cons rfl (by kernel_rfl) (op_int Try.underlying3) (ofs_cons rfl (by kernel_rfl) (op_int Try.underlying3) (ofs_cons rfl (by kernel_rfl) (op_int Try.underlying3) (ofs_cons rfl (by kernel_rfl) (op_int Try.underlying3) (ofs_one rfl (by kernel_rfl) (op_int Try.underlying3))))))))))) (fun _ h => h)
def Law.Pure : Prop := ∀ (a0 : List S78), ∀ (a1 : Int), ∀ (a2 : Int), (a0.length ≤ 9223372036854775807 ∧ ∀ x, x ∈ a0 → Wf78 x) → (Lit.int .i64 a1).wf = true → (Lit.int .i64 a2).wf = true → ∃ k, laws_FnExactDownAggs.f k a0 a1 a2 = some true
end Go.Proofs.Ytppifefhpjhmaaa.PreFnExactDownAggs
