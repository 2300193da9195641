/- The library's strings.Join, strings.CutPrefix and strings.HasPrefix at this program: the shelf's layings, in plain words. No condition. -/
import Derived.Shelf.Strings.Builder1
import Derived.Shelf.Strings.Builder2
import Derived.Shelf.Strings.OnBuilder
import Derived.Shelf.Strings.Prefix
import Derived.Shelf.Small.Wraps
import Derived.Test.YtgofadkgmogbgaaProg
import Derived.KernelRfl
namespace Go.Proofs
open Go.Shelf
def Try.lays156_ren : Go.Shelf.Ren := ⟨fun | 156 => 116 | 165 => 183 | 166 => 184 | 169 => 185 | 240 => 220 | 241 => 221 | 276 => 239 | 277 => 240 | n => n, fun | 31 => 27 | 9 => 9 | 3 => 3 | 4 => 4 | 0 => 0 | 20 => 20 | 72 => 223 | 76 => 226 | 70 => 221 | 37 => 22 | 75 => 225 | 127 => 252 | 164 => 264 | 5 => 5 | 80 => 118 | n => n, fun | n => n⟩
theorem Try.lays156 : Go.Proofs.Lays.n156 Try.prog Try.lays156_ren := {
  mixed := by kernel_rfl
  f156 := Try.func116.trans (congrArg some (by kernel_rfl))
  f165 := Try.func183.trans (congrArg some (by kernel_rfl))
  f166 := Try.func184.trans (congrArg some (by kernel_rfl))
  f169 := Try.func185.trans (congrArg some (by kernel_rfl))
  f240 := Try.func220.trans (congrArg some (by kernel_rfl))
  f241 := Try.func221.trans (congrArg some (by kernel_rfl))
  f276 := Try.func239.trans (congrArg some (by kernel_rfl))
  f277 := Try.func240.trans (congrArg some (by kernel_rfl))
  t0 := Try.underlying0
  a0 := Try.isAgg0
  z0 := Try.sizeOf0
  v0 := Try.zeroValue0
  t3 := Try.underlying3
  a3 := Try.isAgg3
  z3 := Try.sizeOf3
  v3 := Try.zeroValue3
  t4 := Try.underlying4
  a4 := Try.isAgg4
  z4 := Try.sizeOf4
  v4 := Try.zeroValue4
  t9 := Try.underlying9
  a9 := Try.isAgg9
  z9 := Try.sizeOf9
  v9 := Try.zeroValue9
  t20 := Try.underlying20
  a20 := Try.isAgg20
  z20 := Try.sizeOf20
  v20 := Try.zeroValue20
  t31 := Try.underlying27
  a31 := Try.isAgg27
  z31 := Try.sizeOf27
  v31 := Try.zeroValue27
  t37 := Try.underlying22
  a37 := Try.isAgg22
  z37 := Try.sizeOf22
  v37 := Try.zeroValue22
  t70 := Try.underlying221
  a70 := Try.isAgg221
  z70 := Try.sizeOf221
  v70 := Try.zeroValue221
  t72 := Try.underlying223
  a72 := Try.isAgg223
  z72 := Try.sizeOf223
  v72 := Try.zeroValue223
  t75 := Try.underlying225
  a75 := Try.isAgg225
  z75 := Try.sizeOf225
  v75 := Try.zeroValue225
  t76 := Try.underlying226
  a76 := Try.isAgg226
  z76 := Try.sizeOf226
  v76 := Try.zeroValue226
  t127 := Try.underlying252
  a127 := Try.isAgg252
  z127 := Try.sizeOf252
  v127 := Try.zeroValue252
  t164 := Try.underlying264
  a164 := Try.isAgg264
  z164 := Try.sizeOf264
  v164 := Try.zeroValue264 }
theorem Try.Builder_Extra_156 : Builder.Extra Try.prog Try.lays156_ren := {
  sizeBuilder := by kernel_rfl
  liesBuilder := by kernel_rfl
  t5 := Try.underlying5
  a5 := Try.isAgg5
  z5 := Try.sizeOf5
  v5 := Try.zeroValue5
  infoByte := by kernel_rfl
  cellsByte := by kernel_rfl
  sizeByte := by kernel_rfl
  neB5 := by decide }
def Try.lays103_ren : Go.Shelf.Ren := ⟨fun | 103 => 179 | 210 => 218 | 206 => 219 | n => n, fun | 9 => 9 | 4 => 4 | 24 => 216 | 3 => 3 | n => n, fun | n => n⟩
theorem Try.lays103 : Go.Proofs.Lays.n103 Try.prog Try.lays103_ren := {
  mixed := by kernel_rfl
  f103 := Try.func179.trans (congrArg some (by kernel_rfl))
  f206 := Try.func219.trans (congrArg some (by kernel_rfl))
  f210 := Try.func218.trans (congrArg some (by kernel_rfl))
  t3 := Try.underlying3
  a3 := Try.isAgg3
  z3 := Try.sizeOf3
  v3 := Try.zeroValue3
  t4 := Try.underlying4
  a4 := Try.isAgg4
  z4 := Try.sizeOf4
  v4 := Try.zeroValue4
  t9 := Try.underlying9
  a9 := Try.isAgg9
  z9 := Try.sizeOf9
  v9 := Try.zeroValue9
  t24 := Try.underlying216
  a24 := Try.isAgg216
  z24 := Try.sizeOf216
  v24 := Try.zeroValue216 }
def Try.lays99_ren : Go.Shelf.Ren := ⟨fun | 99 => 180 | 206 => 219 | n => n, fun | 9 => 9 | 4 => 4 | 3 => 3 | n => n, fun | n => n⟩
theorem Try.lays99 : Go.Proofs.Lays.n99 Try.prog Try.lays99_ren := {
  mixed := by kernel_rfl
  f99 := Try.func180.trans (congrArg some (by kernel_rfl))
  f206 := Try.func219.trans (congrArg some (by kernel_rfl))
  t3 := Try.underlying3
  a3 := Try.isAgg3
  z3 := Try.sizeOf3
  v3 := Try.zeroValue3
  t4 := Try.underlying4
  a4 := Try.isAgg4
  z4 := Try.sizeOf4
  v4 := Try.zeroValue4
  t9 := Try.underlying9
  a9 := Try.isAgg9
  z9 := Try.sizeOf9
  v9 := Try.zeroValue9 }
end Go.Proofs
