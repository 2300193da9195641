import Derived.Test.YtpgeelolelpfcaaR8
import Derived.Test.YtpgeelolelpfcaaAbsOpen
namespace Go.Ring
open Go Go.RowKit Go.Eager Go.Abs Go.Proofs
set_option maxRecDepth 100000
set_option linter.unusedVariables false
theorem op_node : Opens Try.prog 237 node LNode :=
  op_iso (fun y : ByteArray × Int × List Int × Unit => (⟨y.1, y.2.1, y.2.2.1⟩ : RNode)) (fun _ => rfl) (fun y h => ⟨h.1, h.2.2.1.1⟩)
    (op_struct (n := 3) Try.underlying237 (by kernel_rfl) (ofs_cons (n := 1) (m := 2) rfl (by kernel_rfl) (fun _ => ⟨.inr rfl, rfl⟩) (op_string Try.underlying9) (ofs_cons (n := 1) (m := 1) rfl (by kernel_rfl) (fun _ => ⟨.inr rfl, rfl⟩) (op_int Try.underlying3)
      (ofs_cons (n := 1) (m := 0) rfl (by kernel_rfl) (fun _ => ⟨.inr rfl, rfl⟩) (op_slice (n := 1) Try.underlying67 (by kernel_rfl) (by decide) (fun _ => ⟨.inr rfl, rfl⟩) (op_int Try.underlying3)) ofs_nil))))
theorem op_ring : Opens Try.prog 24 ring LRing :=
  op_iso (fun y : Int × List RNode × Unit => (⟨y.1, y.2.1⟩ : Rg)) (fun _ => rfl) (fun y h => h.2.1)
    (op_struct (n := 2) Try.underlying24 (by kernel_rfl) (ofs_cons (n := 1) (m := 1) rfl (by kernel_rfl) (fun _ => ⟨.inr rfl, rfl⟩) (op_int Try.underlying3)
      (ofs_cons (n := 1) (m := 0) rfl (by kernel_rfl) (fun _ => ⟨.inr rfl, rfl⟩) (op_slice (n := 3) Try.underlying22 (by kernel_rfl) (by decide) (fun _ => ⟨.inl ⟨_, rfl⟩, rfl⟩) op_node) ofs_nil)))
end Go.Ring
