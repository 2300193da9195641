/- The library's slices.Insert of one series: this program's own. No condition. -/
import Derived.Test.YtanilephcohjkaaGreatB7
import Derived.KernelRfl
set_option maxRecDepth 100000
set_option linter.unusedVariables false
namespace Go.Ring
open Go Go.RowKit Go.Eager Go.Abs Go.Proofs
def insRen : Go.Shelf.Ren := ⟨fun | 22 => 165 | 29 => 218 | 30 => 219 | n => n, fun | 24 => 63 | 9 => 125 | n => n, fun x => x⟩
theorem insL165 : InsL Tryz.prog insRen 2 48 (.agg #[.slice none 0 0, .slice none 0 0]) := {
  mixed := by kernel_rfl
  f22 := ⟨Tryz.f165.name, Tryz.f165.targs, Tryz.func165.trans (congrArg some (by kernel_rfl))⟩
  f29 := ⟨Tryz.f218, Tryz.func218, by kernel_rfl, by kernel_rfl, by kernel_rfl, by kernel_rfl⟩
  t3 := Tryz.underlying3
  a3 := Tryz.isAgg3
  t4 := Tryz.underlying4
  a4 := Tryz.isAgg4
  z9 := Tryz.sizeOf125
  t24 := Tryz.underlying63
  a24 := Tryz.isAgg63
  i9 := by kernel_rfl
  zs := rfl }
theorem ins165 : InsC Tryz.prog 165 2 125 48 := insC_of insL165 (by omega)
end Go.Ring
