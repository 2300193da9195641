/- The library's strings.Join at this program: the shelf's laying, in plain words. No condition. -/
import Derived.Shelf.Strings.Builder1
import Derived.Shelf.Strings.Builder2
import Derived.Shelf.Strings.OnBuilder
import Derived.Test.YtpgeelolelpfcaaProg
namespace Go.Proofs
open Go.Shelf
def Try.lays156_ren : Go.Shelf.Ren := ⟨fun | 156 => 153 | 165 => 226 | 166 => 227 | 169 => 228 | 240 => 266 | 241 => 267 | 276 => 286 | 277 => 287 | n => n, fun | 31 => 38 | 9 => 9 | 3 => 3 | 4 => 4 | 0 => 0 | 20 => 20 | 72 => 265 | 76 => 268 | 70 => 263 | 37 => 33 | 75 => 267 | 127 => 297 | 164 => 317 | 5 => 5 | 80 => 147 | n => n, fun | n => n⟩
theorem Try.lays156 : Go.Proofs.Lays.n156 Try.prog Try.lays156_ren := {
  mixed := by kernel_rfl
  f156 := Try.func153.trans (congrArg some (by kernel_rfl))
  f165 := Try.func226.trans (congrArg some (by kernel_rfl))
  f166 := Try.func227.trans (congrArg some (by kernel_rfl))
  f169 := Try.func228.trans (congrArg some (by kernel_rfl))
  f240 := Try.func266.trans (congrArg some (by kernel_rfl))
  f241 := Try.func267.trans (congrArg some (by kernel_rfl))
  f276 := Try.func286.trans (congrArg some (by kernel_rfl))
  f277 := Try.func287.trans (congrArg some (by kernel_rfl))
  t0 := Try.underlying0
  a0 := Try.isAgg0
  z0 := Try.sizeOf0
  v0 := Try.zeroValue0
  t3 := Try.underlying3
  a3 := Try.isAgg3
  z3 := Try.sizeOf3
  v3 := Try.zeroValue3
  t4 := Try.underlying4
  a4 := Try.isAgg4
  z4 := Try.sizeOf4
  v4 := Try.zeroValue4
  t9 := Try.underlying9
  a9 := Try.isAgg9
  z9 := Try.sizeOf9
  v9 := Try.zeroValue9
  t20 := Try.underlying20
  a20 := Try.isAgg20
  z20 := Try.sizeOf20
  v20 := Try.zeroValue20
  t31 := Try.underlying38
  a31 := Try.isAgg38
  z31 := Try.sizeOf38
  v31 := Try.zeroValue38
  t37 := Try.underlying33
  a37 := Try.isAgg33
  z37 := Try.sizeOf33
  v37 := Try.zeroValue33
  t70 := Try.underlying263
  a70 := Try.isAgg263
  z70 := Try.sizeOf263
  v70 := Try.zeroValue263
  t72 := Try.underlying265
  a72 := Try.isAgg265
  z72 := Try.sizeOf265
  v72 := Try.zeroValue265
  t75 := Try.underlying267
  a75 := Try.isAgg267
  z75 := Try.sizeOf267
  v75 := Try.zeroValue267
  t76 := Try.underlying268
  a76 := Try.isAgg268
  z76 := Try.sizeOf268
  v76 := Try.zeroValue268
  t127 := Try.underlying297
  a127 := Try.isAgg297
  z127 := Try.sizeOf297
  v127 := Try.zeroValue297
  t164 := Try.underlying317
  a164 := Try.isAgg317
  z164 := Try.sizeOf317
  v164 := Try.zeroValue317 }
theorem Try.Builder_Extra_156 : Builder.Extra Try.prog Try.lays156_ren := {
  sizeBuilder := by kernel_rfl
  liesBuilder := by kernel_rfl
  t5 := Try.underlying5
  a5 := Try.isAgg5
  z5 := Try.sizeOf5
  v5 := Try.zeroValue5
  infoByte := by kernel_rfl
  cellsByte := by kernel_rfl
  sizeByte := by kernel_rfl
  neB5 := by decide }
end Go.Proofs
