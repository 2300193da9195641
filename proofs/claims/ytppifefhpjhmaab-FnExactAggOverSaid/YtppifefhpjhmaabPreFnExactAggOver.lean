/- The law FnExactAggOver: what is known of each argument that came in, and the pure statement (whatever the arguments are, the law's Lean function says true). -/
import Derived.Test.YtppifefhpjhmaabPFnExactAggOverx9
import Derived.Test.YtppifefhpjhmaabOpen
import Derived.KernelRfl
namespace Go.Proofs.Ytppifefhpjhmaab.PreFnExactAggOver
open Go.RowKit Go.Proofs.Ytppifefhpjhmaab.PFnExactAggOver Go.Proofs.YtppifefhpjhmaabW.PrintWords Go.Proofs.YtppifefhpjhmaabW.PrintLast Go.Proofs.Ytppifefhpjhmaab.Open
set_option linter.unusedVariables false
/-- What is known of a value of type 76 that came in. -/
def Wf76 (x : S76) : Prop := (Lit.int .i64 x.f0).wf = true ∧ (Lit.int .i64 x.f1).wf = true ∧ (Lit.int .i64 x.f2).wf = true ∧ (Lit.int .i64 x.f3).wf = true ∧ (Lit.int .i64 x.f4).wf = true ∧ (Lit.int .i64 x.f5).wf = true ∧ (Lit.int .i64 x.f6).wf = true ∧ (Lit.int .i64 x.f7).wf = true
theorem op_k76 : Opens Try.prog 76 k76 Wf76 :=
  op_mono (op_iso _ (fun p => ⟨p.1, p.2.1, p.2.2.1, p.2.2.2.1, p.2.2.2.2.1, p.2.2.2.2.2.1, p.2.2.2.2.2.2.1, p.2.2.2.2.2.2.2⟩) (fun _ => rfl) (op_struct Try.underlying76 (by kernel_rfl) (ofs_cons rfl (by kernel_rfl) (op_int Try.underlying3) (ofs_cons rfl (by kernel_rfl) (op_int Try.underlying3) (ofs_cons rfl (by kernel_rfl) (op_int Try.underlying3) (ofs_cons rfl (by kernel_rfl) (op_int Try.underlying3) (ofs_cons rfl (by kernel_rfl) (op_int Try.underlying3) (ofs_cons rfl (by kernel_rfl) (op_int Try.underlying3) (ofs_cons rfl (by kernel_rfl) (op_int Try.underlying3) (ofs_one rfl (by kernel_rfl) (op_int Try.underlying3))))))))))) (fun _ h => h)
def Law.Pure : Prop := ∀ (a0 : List S76), ∀ (a1 : Int), ∀ (a2 : Int), ∀ (a3 : Int), ∀ (a4 : Int), (a0.length ≤ 9223372036854775807 ∧ ∀ x, x ∈ a0 → Wf76 x) → (Lit.int .i64 a1).wf = true → (Lit.int .i64 a2).wf = true → (Lit.int .i64 a3).wf = true → (Lit.int .i64 a4).wf = true → ∃ k, laws_FnExactAggOver.f k a0 a1 a2 a3 a4 = some true
end Go.Proofs.Ytppifefhpjhmaab.PreFnExactAggOver
