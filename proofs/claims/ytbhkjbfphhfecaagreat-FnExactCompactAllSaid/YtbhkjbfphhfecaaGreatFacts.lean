/- The facts of types and functions, reckoned. No condition. -/
import Derived.Test.YtbhkjbfphhfecaaGreatEg1
import Derived.Test.YtbhkjbfphhfecaaGreatProg
import Derived.KernelRfl
namespace Go.Ring
open Go Go.RowKit Go.Eager Go.Abs Go.Proofs
set_option maxRecDepth 100000
set_option linter.unusedVariables false
set_option linter.unusedSimpArgs false
theorem aS180 : (aggOf Tryz.prog 180).isSome = true := by kernel_rfl
theorem aS3 : (aggOf Tryz.prog 3).isSome = true := by kernel_rfl
theorem aS5 : (aggOf Tryz.prog 5).isSome = true := by kernel_rfl
theorem ag101 : aggOf Tryz.prog 101 = some true := by kernel_rfl
theorem ag103 : aggOf Tryz.prog 103 = some true := by kernel_rfl
theorem ag128 : aggOf Tryz.prog 128 = some true := by kernel_rfl
theorem ag132 : aggOf Tryz.prog 132 = some false := by kernel_rfl
theorem ag133 : aggOf Tryz.prog 133 = some false := by kernel_rfl
theorem ag135 : aggOf Tryz.prog 135 = some true := by kernel_rfl
theorem ag138 : aggOf Tryz.prog 138 = some true := by kernel_rfl
theorem ag214 : aggOf Tryz.prog 214 = some true := by kernel_rfl
theorem ag219 : aggOf Tryz.prog 219 = some true := by kernel_rfl
theorem ag22 : aggOf Tryz.prog 22 = some false := by kernel_rfl
theorem ag23 : aggOf Tryz.prog 23 = some false := by kernel_rfl
theorem ag25 : aggOf Tryz.prog 25 = some true := by kernel_rfl
theorem ag29 : aggOf Tryz.prog 29 = some false := by kernel_rfl
theorem ag3 : aggOf Tryz.prog 3 = some false := by kernel_rfl
theorem ag31 : aggOf Tryz.prog 31 = some false := by kernel_rfl
theorem ag32 : aggOf Tryz.prog 32 = some false := by kernel_rfl
theorem ag34 : aggOf Tryz.prog 34 = some true := by kernel_rfl
theorem ag4 : aggOf Tryz.prog 4 = some false := by kernel_rfl
theorem ag80 : aggOf Tryz.prog 80 = some false := by kernel_rfl
theorem ag81 : aggOf Tryz.prog 81 = some false := by kernel_rfl
theorem ag83 : aggOf Tryz.prog 83 = some true := by kernel_rfl
theorem ag87 : aggOf Tryz.prog 87 = some true := by kernel_rfl
theorem ag9 : aggOf Tryz.prog 9 = some false := by kernel_rfl
theorem by101 : bytOf Tryz.prog 101 = some 32 := by kernel_rfl
theorem by103 : bytOf Tryz.prog 103 = some 40 := by kernel_rfl
theorem by128 : bytOf Tryz.prog 128 = some 16 := by kernel_rfl
theorem by29 : bytOf Tryz.prog 29 = some 24 := by kernel_rfl
theorem by3 : bytOf Tryz.prog 3 = some 8 := by kernel_rfl
theorem by34 : bytOf Tryz.prog 34 = some 72 := by kernel_rfl
theorem by4 : bytOf Tryz.prog 4 = some 1 := by kernel_rfl
theorem by83 : bytOf Tryz.prog 83 = some 48 := by kernel_rfl
theorem cl100 : Calb Tryz.prog 100 := ⟨Tryz.f100, Tryz.func100, by kernel_rfl, rfl⟩
theorem cl101 : Calb Tryz.prog 101 := ⟨Tryz.f101, Tryz.func101, by kernel_rfl, rfl⟩
theorem cl102 : Calb Tryz.prog 102 := ⟨Tryz.f102, Tryz.func102, by kernel_rfl, rfl⟩
theorem cl104 : Calb Tryz.prog 104 := ⟨Tryz.f104, Tryz.func104, by kernel_rfl, rfl⟩
theorem cl107 : Calb Tryz.prog 107 := ⟨Tryz.f107, Tryz.func107, by kernel_rfl, rfl⟩
theorem cl11 : Calb Tryz.prog 11 := ⟨Tryz.f11, Tryz.func11, by kernel_rfl, rfl⟩
theorem cl110 : Calb Tryz.prog 110 := ⟨Tryz.f110, Tryz.func110, by kernel_rfl, rfl⟩
theorem cl111 : Calb Tryz.prog 111 := ⟨Tryz.f111, Tryz.func111, by kernel_rfl, rfl⟩
theorem cl112 : Calb Tryz.prog 112 := ⟨Tryz.f112, Tryz.func112, by kernel_rfl, rfl⟩
theorem cl113 : Calb Tryz.prog 113 := ⟨Tryz.f113, Tryz.func113, by kernel_rfl, rfl⟩
theorem cl114 : Calb Tryz.prog 114 := ⟨Tryz.f114, Tryz.func114, by kernel_rfl, rfl⟩
theorem cl115 : Calb Tryz.prog 115 := ⟨Tryz.f115, Tryz.func115, by kernel_rfl, rfl⟩
theorem cl116 : Calb Tryz.prog 116 := ⟨Tryz.f116, Tryz.func116, by kernel_rfl, rfl⟩
theorem cl118 : Calb Tryz.prog 118 := ⟨Tryz.f118, Tryz.func118, by kernel_rfl, rfl⟩
theorem cl119 : Calb Tryz.prog 119 := ⟨Tryz.f119, Tryz.func119, by kernel_rfl, rfl⟩
theorem cl120 : Calb Tryz.prog 120 := ⟨Tryz.f120, Tryz.func120, by kernel_rfl, rfl⟩
theorem cl121 : Calb Tryz.prog 121 := ⟨Tryz.f121, Tryz.func121, by kernel_rfl, rfl⟩
theorem cl122 : Calb Tryz.prog 122 := ⟨Tryz.f122, Tryz.func122, by kernel_rfl, rfl⟩
theorem cl123 : Calb Tryz.prog 123 := ⟨Tryz.f123, Tryz.func123, by kernel_rfl, rfl⟩
theorem cl128 : Calb Tryz.prog 128 := ⟨Tryz.f128, Tryz.func128, by kernel_rfl, rfl⟩
theorem cl129 : Calb Tryz.prog 129 := ⟨Tryz.f129, Tryz.func129, by kernel_rfl, rfl⟩
theorem cl130 : Calb Tryz.prog 130 := ⟨Tryz.f130, Tryz.func130, by kernel_rfl, rfl⟩
theorem cl132 : Calb Tryz.prog 132 := ⟨Tryz.f132, Tryz.func132, by kernel_rfl, rfl⟩
theorem cl133 : Calb Tryz.prog 133 := ⟨Tryz.f133, Tryz.func133, by kernel_rfl, rfl⟩
theorem cl134 : Calb Tryz.prog 134 := ⟨Tryz.f134, Tryz.func134, by kernel_rfl, rfl⟩
theorem cl135 : Calb Tryz.prog 135 := ⟨Tryz.f135, Tryz.func135, by kernel_rfl, rfl⟩
theorem cl136 : Calb Tryz.prog 136 := ⟨Tryz.f136, Tryz.func136, by kernel_rfl, rfl⟩
theorem cl137 : Calb Tryz.prog 137 := ⟨Tryz.f137, Tryz.func137, by kernel_rfl, rfl⟩
theorem cl138 : Calb Tryz.prog 138 := ⟨Tryz.f138, Tryz.func138, by kernel_rfl, rfl⟩
theorem cl14 : Calb Tryz.prog 14 := ⟨Tryz.f14, Tryz.func14, by kernel_rfl, rfl⟩
theorem cl140 : Calb Tryz.prog 140 := ⟨Tryz.f140, Tryz.func140, by kernel_rfl, rfl⟩
theorem cl141 : Calb Tryz.prog 141 := ⟨Tryz.f141, Tryz.func141, by kernel_rfl, rfl⟩
theorem cl142 : Calb Tryz.prog 142 := ⟨Tryz.f142, Tryz.func142, by kernel_rfl, rfl⟩
theorem cl144 : Calb Tryz.prog 144 := ⟨Tryz.f144, Tryz.func144, by kernel_rfl, rfl⟩
theorem cl145 : Calb Tryz.prog 145 := ⟨Tryz.f145, Tryz.func145, by kernel_rfl, rfl⟩
theorem cl146 : Calb Tryz.prog 146 := ⟨Tryz.f146, Tryz.func146, by kernel_rfl, rfl⟩
theorem cl147 : Calb Tryz.prog 147 := ⟨Tryz.f147, Tryz.func147, by kernel_rfl, rfl⟩
theorem cl148 : Calb Tryz.prog 148 := ⟨Tryz.f148, Tryz.func148, by kernel_rfl, rfl⟩
theorem cl149 : Calb Tryz.prog 149 := ⟨Tryz.f149, Tryz.func149, by kernel_rfl, rfl⟩
theorem cl150 : Calb Tryz.prog 150 := ⟨Tryz.f150, Tryz.func150, by kernel_rfl, rfl⟩
theorem cl151 : Calb Tryz.prog 151 := ⟨Tryz.f151, Tryz.func151, by kernel_rfl, rfl⟩
theorem cl152 : Calb Tryz.prog 152 := ⟨Tryz.f152, Tryz.func152, by kernel_rfl, rfl⟩
theorem cl153 : Calb Tryz.prog 153 := ⟨Tryz.f153, Tryz.func153, by kernel_rfl, rfl⟩
theorem cl154 : Calb Tryz.prog 154 := ⟨Tryz.f154, Tryz.func154, by kernel_rfl, rfl⟩
theorem cl155 : Calb Tryz.prog 155 := ⟨Tryz.f155, Tryz.func155, by kernel_rfl, rfl⟩
theorem cl156 : Calb Tryz.prog 156 := ⟨Tryz.f156, Tryz.func156, by kernel_rfl, rfl⟩
theorem cl157 : Calb Tryz.prog 157 := ⟨Tryz.f157, Tryz.func157, by kernel_rfl, rfl⟩
theorem cl166 : Calb Tryz.prog 166 := ⟨Tryz.f166, Tryz.func166, by kernel_rfl, rfl⟩
theorem cl167 : Calb Tryz.prog 167 := ⟨Tryz.f167, Tryz.func167, by kernel_rfl, rfl⟩
theorem cl168 : Calb Tryz.prog 168 := ⟨Tryz.f168, Tryz.func168, by kernel_rfl, rfl⟩
theorem cl169 : Calb Tryz.prog 169 := ⟨Tryz.f169, Tryz.func169, by kernel_rfl, rfl⟩
theorem cl170 : Calb Tryz.prog 170 := ⟨Tryz.f170, Tryz.func170, by kernel_rfl, rfl⟩
theorem cl171 : Calb Tryz.prog 171 := ⟨Tryz.f171, Tryz.func171, by kernel_rfl, rfl⟩
theorem cl172 : Calb Tryz.prog 172 := ⟨Tryz.f172, Tryz.func172, by kernel_rfl, rfl⟩
theorem cl173 : Calb Tryz.prog 173 := ⟨Tryz.f173, Tryz.func173, by kernel_rfl, rfl⟩
theorem cl174 : Calb Tryz.prog 174 := ⟨Tryz.f174, Tryz.func174, by kernel_rfl, rfl⟩
theorem cl175 : Calb Tryz.prog 175 := ⟨Tryz.f175, Tryz.func175, by kernel_rfl, rfl⟩
theorem cl176 : Calb Tryz.prog 176 := ⟨Tryz.f176, Tryz.func176, by kernel_rfl, rfl⟩
theorem cl177 : Calb Tryz.prog 177 := ⟨Tryz.f177, Tryz.func177, by kernel_rfl, rfl⟩
theorem cl178 : Calb Tryz.prog 178 := ⟨Tryz.f178, Tryz.func178, by kernel_rfl, rfl⟩
theorem cl179 : Calb Tryz.prog 179 := ⟨Tryz.f179, Tryz.func179, by kernel_rfl, rfl⟩
theorem cl18 : Calb Tryz.prog 18 := ⟨Tryz.f18, Tryz.func18, by kernel_rfl, rfl⟩
theorem cl180 : Calb Tryz.prog 180 := ⟨Tryz.f180, Tryz.func180, by kernel_rfl, rfl⟩
theorem cl181 : Calb Tryz.prog 181 := ⟨Tryz.f181, Tryz.func181, by kernel_rfl, rfl⟩
theorem cl183 : Calb Tryz.prog 183 := ⟨Tryz.f183, Tryz.func183, by kernel_rfl, rfl⟩
theorem cl186 : Calb Tryz.prog 186 := ⟨Tryz.f186, Tryz.func186, by kernel_rfl, rfl⟩
theorem cl188 : Calb Tryz.prog 188 := ⟨Tryz.f188, Tryz.func188, by kernel_rfl, rfl⟩
theorem cl189 : Calb Tryz.prog 189 := ⟨Tryz.f189, Tryz.func189, by kernel_rfl, rfl⟩
theorem cl190 : Calb Tryz.prog 190 := ⟨Tryz.f190, Tryz.func190, by kernel_rfl, rfl⟩
theorem cl191 : Calb Tryz.prog 191 := ⟨Tryz.f191, Tryz.func191, by kernel_rfl, rfl⟩
theorem cl194 : Calb Tryz.prog 194 := ⟨Tryz.f194, Tryz.func194, by kernel_rfl, rfl⟩
theorem cl195 : Calb Tryz.prog 195 := ⟨Tryz.f195, Tryz.func195, by kernel_rfl, rfl⟩
theorem cl196 : Calb Tryz.prog 196 := ⟨Tryz.f196, Tryz.func196, by kernel_rfl, rfl⟩
theorem cl212 : Calb Tryz.prog 212 := ⟨Tryz.f212, Tryz.func212, by kernel_rfl, rfl⟩
theorem cl213 : Calb Tryz.prog 213 := ⟨Tryz.f213, Tryz.func213, by kernel_rfl, rfl⟩
theorem cl214 : Calb Tryz.prog 214 := ⟨Tryz.f214, Tryz.func214, by kernel_rfl, rfl⟩
theorem cl215 : Calb Tryz.prog 215 := ⟨Tryz.f215, Tryz.func215, by kernel_rfl, rfl⟩
theorem cl216 : Calb Tryz.prog 216 := ⟨Tryz.f216, Tryz.func216, by kernel_rfl, rfl⟩
theorem cl217 : Calb Tryz.prog 217 := ⟨Tryz.f217, Tryz.func217, by kernel_rfl, rfl⟩
theorem cl228 : Calb Tryz.prog 228 := ⟨Tryz.f228, Tryz.func228, by kernel_rfl, rfl⟩
theorem cl26 : Calb Tryz.prog 26 := ⟨Tryz.f26, Tryz.func26, by kernel_rfl, rfl⟩
theorem cl27 : Calb Tryz.prog 27 := ⟨Tryz.f27, Tryz.func27, by kernel_rfl, rfl⟩
theorem cl28 : Calb Tryz.prog 28 := ⟨Tryz.f28, Tryz.func28, by kernel_rfl, rfl⟩
theorem cl32 : Calb Tryz.prog 32 := ⟨Tryz.f32, Tryz.func32, by kernel_rfl, rfl⟩
theorem cl34 : Calb Tryz.prog 34 := ⟨Tryz.f34, Tryz.func34, by kernel_rfl, rfl⟩
theorem cl36 : Calb Tryz.prog 36 := ⟨Tryz.f36, Tryz.func36, by kernel_rfl, rfl⟩
theorem cl37 : Calb Tryz.prog 37 := ⟨Tryz.f37, Tryz.func37, by kernel_rfl, rfl⟩
theorem cl40 : Calb Tryz.prog 40 := ⟨Tryz.f40, Tryz.func40, by kernel_rfl, rfl⟩
theorem cl42 : Calb Tryz.prog 42 := ⟨Tryz.f42, Tryz.func42, by kernel_rfl, rfl⟩
theorem cl43 : Calb Tryz.prog 43 := ⟨Tryz.f43, Tryz.func43, by kernel_rfl, rfl⟩
theorem cl44 : Calb Tryz.prog 44 := ⟨Tryz.f44, Tryz.func44, by kernel_rfl, rfl⟩
theorem cl52 : Calb Tryz.prog 52 := ⟨Tryz.f52, Tryz.func52, by kernel_rfl, rfl⟩
theorem cl53 : Calb Tryz.prog 53 := ⟨Tryz.f53, Tryz.func53, by kernel_rfl, rfl⟩
theorem cl55 : Calb Tryz.prog 55 := ⟨Tryz.f55, Tryz.func55, by kernel_rfl, rfl⟩
theorem cl57 : Calb Tryz.prog 57 := ⟨Tryz.f57, Tryz.func57, by kernel_rfl, rfl⟩
theorem cl58 : Calb Tryz.prog 58 := ⟨Tryz.f58, Tryz.func58, by kernel_rfl, rfl⟩
theorem cl59 : Calb Tryz.prog 59 := ⟨Tryz.f59, Tryz.func59, by kernel_rfl, rfl⟩
theorem cl61 : Calb Tryz.prog 61 := ⟨Tryz.f61, Tryz.func61, by kernel_rfl, rfl⟩
theorem cl64 : Calb Tryz.prog 64 := ⟨Tryz.f64, Tryz.func64, by kernel_rfl, rfl⟩
theorem cl66 : Calb Tryz.prog 66 := ⟨Tryz.f66, Tryz.func66, by kernel_rfl, rfl⟩
theorem cl67 : Calb Tryz.prog 67 := ⟨Tryz.f67, Tryz.func67, by kernel_rfl, rfl⟩
theorem cl68 : Calb Tryz.prog 68 := ⟨Tryz.f68, Tryz.func68, by kernel_rfl, rfl⟩
theorem cl70 : Calb Tryz.prog 70 := ⟨Tryz.f70, Tryz.func70, by kernel_rfl, rfl⟩
theorem cl71 : Calb Tryz.prog 71 := ⟨Tryz.f71, Tryz.func71, by kernel_rfl, rfl⟩
theorem cl72 : Calb Tryz.prog 72 := ⟨Tryz.f72, Tryz.func72, by kernel_rfl, rfl⟩
theorem cl73 : Calb Tryz.prog 73 := ⟨Tryz.f73, Tryz.func73, by kernel_rfl, rfl⟩
theorem cl74 : Calb Tryz.prog 74 := ⟨Tryz.f74, Tryz.func74, by kernel_rfl, rfl⟩
theorem cl75 : Calb Tryz.prog 75 := ⟨Tryz.f75, Tryz.func75, by kernel_rfl, rfl⟩
theorem cl77 : Calb Tryz.prog 77 := ⟨Tryz.f77, Tryz.func77, by kernel_rfl, rfl⟩
theorem cl78 : Calb Tryz.prog 78 := ⟨Tryz.f78, Tryz.func78, by kernel_rfl, rfl⟩
theorem cl81 : Calb Tryz.prog 81 := ⟨Tryz.f81, Tryz.func81, by kernel_rfl, rfl⟩
theorem cl82 : Calb Tryz.prog 82 := ⟨Tryz.f82, Tryz.func82, by kernel_rfl, rfl⟩
theorem cl83 : Calb Tryz.prog 83 := ⟨Tryz.f83, Tryz.func83, by kernel_rfl, rfl⟩
theorem cl84 : Calb Tryz.prog 84 := ⟨Tryz.f84, Tryz.func84, by kernel_rfl, rfl⟩
theorem cl85 : Calb Tryz.prog 85 := ⟨Tryz.f85, Tryz.func85, by kernel_rfl, rfl⟩
theorem cl87 : Calb Tryz.prog 87 := ⟨Tryz.f87, Tryz.func87, by kernel_rfl, rfl⟩
theorem cl88 : Calb Tryz.prog 88 := ⟨Tryz.f88, Tryz.func88, by kernel_rfl, rfl⟩
theorem cl89 : Calb Tryz.prog 89 := ⟨Tryz.f89, Tryz.func89, by kernel_rfl, rfl⟩
theorem cl90 : Calb Tryz.prog 90 := ⟨Tryz.f90, Tryz.func90, by kernel_rfl, rfl⟩
theorem cl92 : Calb Tryz.prog 92 := ⟨Tryz.f92, Tryz.func92, by kernel_rfl, rfl⟩
theorem cl93 : Calb Tryz.prog 93 := ⟨Tryz.f93, Tryz.func93, by kernel_rfl, rfl⟩
theorem cl94 : Calb Tryz.prog 94 := ⟨Tryz.f94, Tryz.func94, by kernel_rfl, rfl⟩
theorem cl95 : Calb Tryz.prog 95 := ⟨Tryz.f95, Tryz.func95, by kernel_rfl, rfl⟩
theorem cl96 : Calb Tryz.prog 96 := ⟨Tryz.f96, Tryz.func96, by kernel_rfl, rfl⟩
theorem cl97 : Calb Tryz.prog 97 := ⟨Tryz.f97, Tryz.func97, by kernel_rfl, rfl⟩
theorem cl98 : Calb Tryz.prog 98 := ⟨Tryz.f98, Tryz.func98, by kernel_rfl, rfl⟩
theorem cl99 : Calb Tryz.prog 99 := ⟨Tryz.f99, Tryz.func99, by kernel_rfl, rfl⟩
theorem eS132 : (elOf Tryz.prog 132).isSome = true := by kernel_rfl
theorem eS133 : (elOf Tryz.prog 133).isSome = true := by kernel_rfl
theorem eS184 : (elOf Tryz.prog 184).isSome = true := by kernel_rfl
theorem eS22 : (elOf Tryz.prog 22).isSome = true := by kernel_rfl
theorem eS23 : (elOf Tryz.prog 23).isSome = true := by kernel_rfl
theorem eS29 : (elOf Tryz.prog 29).isSome = true := by kernel_rfl
theorem eS31 : (elOf Tryz.prog 31).isSome = true := by kernel_rfl
theorem eS32 : (elOf Tryz.prog 32).isSome = true := by kernel_rfl
theorem eS36 : (elOf Tryz.prog 36).isSome = true := by kernel_rfl
theorem eS50 : (elOf Tryz.prog 50).isSome = true := by kernel_rfl
theorem eS53 : (elOf Tryz.prog 53).isSome = true := by kernel_rfl
theorem eS80 : (elOf Tryz.prog 80).isSome = true := by kernel_rfl
theorem eS81 : (elOf Tryz.prog 81).isSome = true := by kernel_rfl
theorem el132 : elOf Tryz.prog 132 = some (214, 2) := by kernel_rfl
theorem el133 : elOf Tryz.prog 133 = some (219, 2) := by kernel_rfl
theorem el152 : elOf Tryz.prog 152 = some (5, 1) := by kernel_rfl
theorem el184 : elOf Tryz.prog 184 = some (29, 1) := by kernel_rfl
theorem el215 : elOf Tryz.prog 215 = some (4, 1) := by kernel_rfl
theorem el22 : elOf Tryz.prog 22 = some (135, 2) := by kernel_rfl
theorem el23 : elOf Tryz.prog 23 = some (138, 3) := by kernel_rfl
theorem el29 : elOf Tryz.prog 29 = some (3, 1) := by kernel_rfl
theorem el31 : elOf Tryz.prog 31 = some (83, 2) := by kernel_rfl
theorem el32 : elOf Tryz.prog 32 = some (103, 3) := by kernel_rfl
theorem el36 : elOf Tryz.prog 36 = some (87, 3) := by kernel_rfl
theorem el50 : elOf Tryz.prog 50 = some (25, 5) := by kernel_rfl
theorem el53 : elOf Tryz.prog 53 = some (34, 5) := by kernel_rfl
theorem el80 : elOf Tryz.prog 80 = some (101, 2) := by kernel_rfl
theorem el81 : elOf Tryz.prog 81 = some (128, 2) := by kernel_rfl
theorem fd101_0 : fdOf Tryz.prog 101 0 = some (0, 1, false) := by kernel_rfl
theorem fd101_1 : fdOf Tryz.prog 101 1 = some (1, 1, false) := by kernel_rfl
theorem fd103_0 : fdOf Tryz.prog 103 0 = some (0, 1, false) := by kernel_rfl
theorem fd103_1 : fdOf Tryz.prog 103 1 = some (1, 1, false) := by kernel_rfl
theorem fd103_2 : fdOf Tryz.prog 103 2 = some (2, 1, false) := by kernel_rfl
theorem fd128_0 : fdOf Tryz.prog 128 0 = some (0, 1, false) := by kernel_rfl
theorem fd128_1 : fdOf Tryz.prog 128 1 = some (1, 1, false) := by kernel_rfl
theorem fd135_0 : fdOf Tryz.prog 135 0 = some (0, 1, false) := by kernel_rfl
theorem fd135_1 : fdOf Tryz.prog 135 1 = some (1, 1, false) := by kernel_rfl
theorem fd138_0 : fdOf Tryz.prog 138 0 = some (0, 1, false) := by kernel_rfl
theorem fd138_1 : fdOf Tryz.prog 138 1 = some (1, 1, false) := by kernel_rfl
theorem fd138_2 : fdOf Tryz.prog 138 2 = some (2, 1, false) := by kernel_rfl
theorem fd214_0 : fdOf Tryz.prog 214 0 = some (0, 1, false) := by kernel_rfl
theorem fd214_1 : fdOf Tryz.prog 214 1 = some (1, 1, false) := by kernel_rfl
theorem fd219_0 : fdOf Tryz.prog 219 0 = some (0, 1, false) := by kernel_rfl
theorem fd219_1 : fdOf Tryz.prog 219 1 = some (1, 1, false) := by kernel_rfl
theorem fd25_0 : fdOf Tryz.prog 25 0 = some (0, 1, false) := by kernel_rfl
theorem fd25_1 : fdOf Tryz.prog 25 1 = some (1, 1, false) := by kernel_rfl
theorem fd25_2 : fdOf Tryz.prog 25 2 = some (2, 1, false) := by kernel_rfl
theorem fd25_3 : fdOf Tryz.prog 25 3 = some (3, 1, false) := by kernel_rfl
theorem fd25_4 : fdOf Tryz.prog 25 4 = some (4, 1, false) := by kernel_rfl
theorem fd34_0 : fdOf Tryz.prog 34 0 = some (0, 1, false) := by kernel_rfl
theorem fd34_1 : fdOf Tryz.prog 34 1 = some (1, 1, false) := by kernel_rfl
theorem fd34_2 : fdOf Tryz.prog 34 2 = some (2, 1, false) := by kernel_rfl
theorem fd34_3 : fdOf Tryz.prog 34 3 = some (3, 1, false) := by kernel_rfl
theorem fd34_4 : fdOf Tryz.prog 34 4 = some (4, 1, false) := by kernel_rfl
theorem fd83_0 : fdOf Tryz.prog 83 0 = some (0, 1, false) := by kernel_rfl
theorem fd83_1 : fdOf Tryz.prog 83 1 = some (1, 1, false) := by kernel_rfl
theorem fd87_0 : fdOf Tryz.prog 87 0 = some (0, 1, false) := by kernel_rfl
theorem fd87_1 : fdOf Tryz.prog 87 1 = some (1, 1, false) := by kernel_rfl
theorem fd87_2 : fdOf Tryz.prog 87 2 = some (2, 1, false) := by kernel_rfl
theorem ik180 : inkOf Tryz.prog 180 = some .u64 := by kernel_rfl
theorem ik3 : inkOf Tryz.prog 3 = some .i64 := by kernel_rfl
theorem ik5 : inkOf Tryz.prog 5 = some .u8 := by kernel_rfl
theorem st9 : strOf Tryz.prog 9 = true := by kernel_rfl
theorem sz101 : szOf Tryz.prog 101 = some 2 := by kernel_rfl
theorem sz103 : szOf Tryz.prog 103 = some 3 := by kernel_rfl
theorem sz128 : szOf Tryz.prog 128 = some 2 := by kernel_rfl
theorem sz135 : szOf Tryz.prog 135 = some 2 := by kernel_rfl
theorem sz138 : szOf Tryz.prog 138 = some 3 := by kernel_rfl
theorem sz214 : szOf Tryz.prog 214 = some 2 := by kernel_rfl
theorem sz219 : szOf Tryz.prog 219 = some 2 := by kernel_rfl
theorem sz25 : szOf Tryz.prog 25 = some 5 := by kernel_rfl
theorem sz3 : szOf Tryz.prog 3 = some 1 := by kernel_rfl
theorem sz31 : szOf Tryz.prog 31 = some 1 := by kernel_rfl
theorem sz32 : szOf Tryz.prog 32 = some 1 := by kernel_rfl
theorem sz34 : szOf Tryz.prog 34 = some 5 := by kernel_rfl
theorem sz4 : szOf Tryz.prog 4 = some 1 := by kernel_rfl
theorem sz80 : szOf Tryz.prog 80 = some 1 := by kernel_rfl
theorem sz81 : szOf Tryz.prog 81 = some 1 := by kernel_rfl
theorem sz83 : szOf Tryz.prog 83 = some 2 := by kernel_rfl
theorem sz87 : szOf Tryz.prog 87 = some 3 := by kernel_rfl
theorem sz9 : szOf Tryz.prog 9 = some 1 := by kernel_rfl
theorem ze101 : zeroOf Tryz.prog 101 = some (.agg #[.string ⟨#[]⟩, .string ⟨#[]⟩]) := by kernel_rfl
theorem ze103 : zeroOf Tryz.prog 103 = some (.agg #[.slice none 0 0, .int .i64 0, .int .i64 0]) := by kernel_rfl
theorem ze128 : zeroOf Tryz.prog 128 = some (.agg #[.int .i64 0, .int .i64 0]) := by kernel_rfl
theorem ze29 : zeroOf Tryz.prog 29 = some (.slice none 0 0) := by kernel_rfl
theorem ze3 : zeroOf Tryz.prog 3 = some (.int .i64 0) := by kernel_rfl
theorem ze34 : zeroOf Tryz.prog 34 = some (.agg #[.int .i64 0, .int .i64 0, .int .i64 0, .slice none 0 0, .slice none 0 0]) := by kernel_rfl
theorem ze4 : zeroOf Tryz.prog 4 = some (.bool false) := by kernel_rfl
theorem ze5 : zeroOf Tryz.prog 5 = some (.int .u8 0) := by kernel_rfl
theorem ze83 : zeroOf Tryz.prog 83 = some (.agg #[.slice none 0 0, .slice none 0 0]) := by kernel_rfl
theorem ze87 : zeroOf Tryz.prog 87 = some (.agg #[.string ⟨#[]⟩, .int .i64 0, .string ⟨#[]⟩]) := by kernel_rfl
end Go.Ring
