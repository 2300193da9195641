/- The library's slices.Insert of one series: this program's own. No condition. -/
import Derived.Test.YtbhkjbfphhfecaaGreatB7
import Derived.KernelRfl
set_option maxRecDepth 100000
set_option linter.unusedVariables false
namespace Go.Ring
open Go Go.RowKit Go.Eager Go.Abs Go.Proofs
def insRen : Go.Shelf.Ren := ⟨fun | 22 => 151 | 29 => 197 | 30 => 198 | n => n, fun | 24 => 31 | 9 => 83 | n => n, fun x => x⟩
theorem insL151 : InsL Tryz.prog insRen 2 48 (.agg #[.slice none 0 0, .slice none 0 0]) := {
  mixed := by kernel_rfl
  f22 := ⟨Tryz.f151.name, Tryz.f151.targs, Tryz.func151.trans (congrArg some (by kernel_rfl))⟩
  f29 := ⟨Tryz.f197, Tryz.func197, by kernel_rfl, by kernel_rfl, by kernel_rfl, by kernel_rfl⟩
  t3 := Tryz.underlying3
  a3 := Tryz.isAgg3
  t4 := Tryz.underlying4
  a4 := Tryz.isAgg4
  z9 := Tryz.sizeOf83
  t24 := Tryz.underlying31
  a24 := Tryz.isAgg31
  i9 := by kernel_rfl
  zs := rfl }
theorem ins151 : InsC Tryz.prog 151 2 83 48 := insC_of insL151 (by omega)
end Go.Ring
