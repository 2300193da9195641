/- The facts of types and functions, reckoned. No condition. -/
import Derived.Test.YtlokejcoikddgaaBase
import Derived.Test.YtlokejcoikddgaaProg
import Derived.KernelRfl
namespace Go.Ring
open Go Go.RowKit Go.Eager Go.Abs Go.Proofs
set_option maxRecDepth 100000
set_option linter.unusedVariables false
set_option linter.unusedSimpArgs false
theorem aS166 : (aggOf Try.prog 166).isSome = true := by kernel_rfl
theorem aS190 : (aggOf Try.prog 190).isSome = true := by kernel_rfl
theorem aS192 : (aggOf Try.prog 192).isSome = true := by kernel_rfl
theorem aS3 : (aggOf Try.prog 3).isSome = true := by kernel_rfl
theorem aS5 : (aggOf Try.prog 5).isSome = true := by kernel_rfl
theorem ag110 : aggOf Try.prog 110 = some true := by kernel_rfl
theorem ag120 : aggOf Try.prog 120 = some true := by kernel_rfl
theorem ag122 : aggOf Try.prog 122 = some true := by kernel_rfl
theorem ag127 : aggOf Try.prog 127 = some true := by kernel_rfl
theorem ag131 : aggOf Try.prog 131 = some true := by kernel_rfl
theorem ag168 : aggOf Try.prog 168 = some true := by kernel_rfl
theorem ag171 : aggOf Try.prog 171 = some true := by kernel_rfl
theorem ag197 : aggOf Try.prog 197 = some false := by kernel_rfl
theorem ag22 : aggOf Try.prog 22 = some false := by kernel_rfl
theorem ag23 : aggOf Try.prog 23 = some false := by kernel_rfl
theorem ag25 : aggOf Try.prog 25 = some true := by kernel_rfl
theorem ag27 : aggOf Try.prog 27 = some false := by kernel_rfl
theorem ag29 : aggOf Try.prog 29 = some false := by kernel_rfl
theorem ag3 : aggOf Try.prog 3 = some false := by kernel_rfl
theorem ag30 : aggOf Try.prog 30 = some false := by kernel_rfl
theorem ag32 : aggOf Try.prog 32 = some true := by kernel_rfl
theorem ag39 : aggOf Try.prog 39 = some false := by kernel_rfl
theorem ag41 : aggOf Try.prog 41 = some true := by kernel_rfl
theorem ag44 : aggOf Try.prog 44 = some false := by kernel_rfl
theorem ag46 : aggOf Try.prog 46 = some true := by kernel_rfl
theorem ag50 : aggOf Try.prog 50 = some false := by kernel_rfl
theorem ag72 : aggOf Try.prog 72 = some false := by kernel_rfl
theorem ag73 : aggOf Try.prog 73 = some false := by kernel_rfl
theorem ag75 : aggOf Try.prog 75 = some true := by kernel_rfl
theorem ag85 : aggOf Try.prog 85 = some true := by kernel_rfl
theorem ag88 : aggOf Try.prog 88 = some true := by kernel_rfl
theorem ag9 : aggOf Try.prog 9 = some false := by kernel_rfl
theorem ag94 : aggOf Try.prog 94 = some false := by kernel_rfl
theorem ag95 : aggOf Try.prog 95 = some false := by kernel_rfl
theorem ag97 : aggOf Try.prog 97 = some true := by kernel_rfl
theorem by110 : bytOf Try.prog 110 = some 16 := by kernel_rfl
theorem by122 : bytOf Try.prog 122 = some 40 := by kernel_rfl
theorem by127 : bytOf Try.prog 127 = some 32 := by kernel_rfl
theorem by3 : bytOf Try.prog 3 = some 8 := by kernel_rfl
theorem by32 : bytOf Try.prog 32 = some 72 := by kernel_rfl
theorem by75 : bytOf Try.prog 75 = some 48 := by kernel_rfl
theorem by85 : bytOf Try.prog 85 = some 16 := by kernel_rfl
theorem by88 : bytOf Try.prog 88 = some 48 := by kernel_rfl
theorem by9 : bytOf Try.prog 9 = some 16 := by kernel_rfl
theorem cl10 : Calb Try.prog 10 := ⟨Try.f10, Try.func10, by kernel_rfl, rfl⟩
theorem cl100 : Calb Try.prog 100 := ⟨Try.f100, Try.func100, by kernel_rfl, rfl⟩
theorem cl101 : Calb Try.prog 101 := ⟨Try.f101, Try.func101, by kernel_rfl, rfl⟩
theorem cl102 : Calb Try.prog 102 := ⟨Try.f102, Try.func102, by kernel_rfl, rfl⟩
theorem cl103 : Calb Try.prog 103 := ⟨Try.f103, Try.func103, by kernel_rfl, rfl⟩
theorem cl104 : Calb Try.prog 104 := ⟨Try.f104, Try.func104, by kernel_rfl, rfl⟩
theorem cl105 : Calb Try.prog 105 := ⟨Try.f105, Try.func105, by kernel_rfl, rfl⟩
theorem cl106 : Calb Try.prog 106 := ⟨Try.f106, Try.func106, by kernel_rfl, rfl⟩
theorem cl107 : Calb Try.prog 107 := ⟨Try.f107, Try.func107, by kernel_rfl, rfl⟩
theorem cl108 : Calb Try.prog 108 := ⟨Try.f108, Try.func108, by kernel_rfl, rfl⟩
theorem cl109 : Calb Try.prog 109 := ⟨Try.f109, Try.func109, by kernel_rfl, rfl⟩
theorem cl11 : Calb Try.prog 11 := ⟨Try.f11, Try.func11, by kernel_rfl, rfl⟩
theorem cl110 : Calb Try.prog 110 := ⟨Try.f110, Try.func110, by kernel_rfl, rfl⟩
theorem cl111 : Calb Try.prog 111 := ⟨Try.f111, Try.func111, by kernel_rfl, rfl⟩
theorem cl112 : Calb Try.prog 112 := ⟨Try.f112, Try.func112, by kernel_rfl, rfl⟩
theorem cl113 : Calb Try.prog 113 := ⟨Try.f113, Try.func113, by kernel_rfl, rfl⟩
theorem cl114 : Calb Try.prog 114 := ⟨Try.f114, Try.func114, by kernel_rfl, rfl⟩
theorem cl115 : Calb Try.prog 115 := ⟨Try.f115, Try.func115, by kernel_rfl, rfl⟩
theorem cl116 : Calb Try.prog 116 := ⟨Try.f116, Try.func116, by kernel_rfl, rfl⟩
theorem cl117 : Calb Try.prog 117 := ⟨Try.f117, Try.func117, by kernel_rfl, rfl⟩
theorem cl118 : Calb Try.prog 118 := ⟨Try.f118, Try.func118, by kernel_rfl, rfl⟩
theorem cl119 : Calb Try.prog 119 := ⟨Try.f119, Try.func119, by kernel_rfl, rfl⟩
theorem cl12 : Calb Try.prog 12 := ⟨Try.f12, Try.func12, by kernel_rfl, rfl⟩
theorem cl120 : Calb Try.prog 120 := ⟨Try.f120, Try.func120, by kernel_rfl, rfl⟩
theorem cl121 : Calb Try.prog 121 := ⟨Try.f121, Try.func121, by kernel_rfl, rfl⟩
theorem cl122 : Calb Try.prog 122 := ⟨Try.f122, Try.func122, by kernel_rfl, rfl⟩
theorem cl123 : Calb Try.prog 123 := ⟨Try.f123, Try.func123, by kernel_rfl, rfl⟩
theorem cl124 : Calb Try.prog 124 := ⟨Try.f124, Try.func124, by kernel_rfl, rfl⟩
theorem cl125 : Calb Try.prog 125 := ⟨Try.f125, Try.func125, by kernel_rfl, rfl⟩
theorem cl126 : Calb Try.prog 126 := ⟨Try.f126, Try.func126, by kernel_rfl, rfl⟩
theorem cl127 : Calb Try.prog 127 := ⟨Try.f127, Try.func127, by kernel_rfl, rfl⟩
theorem cl128 : Calb Try.prog 128 := ⟨Try.f128, Try.func128, by kernel_rfl, rfl⟩
theorem cl129 : Calb Try.prog 129 := ⟨Try.f129, Try.func129, by kernel_rfl, rfl⟩
theorem cl13 : Calb Try.prog 13 := ⟨Try.f13, Try.func13, by kernel_rfl, rfl⟩
theorem cl131 : Calb Try.prog 131 := ⟨Try.f131, Try.func131, by kernel_rfl, rfl⟩
theorem cl132 : Calb Try.prog 132 := ⟨Try.f132, Try.func132, by kernel_rfl, rfl⟩
theorem cl133 : Calb Try.prog 133 := ⟨Try.f133, Try.func133, by kernel_rfl, rfl⟩
theorem cl134 : Calb Try.prog 134 := ⟨Try.f134, Try.func134, by kernel_rfl, rfl⟩
theorem cl135 : Calb Try.prog 135 := ⟨Try.f135, Try.func135, by kernel_rfl, rfl⟩
theorem cl136 : Calb Try.prog 136 := ⟨Try.f136, Try.func136, by kernel_rfl, rfl⟩
theorem cl137 : Calb Try.prog 137 := ⟨Try.f137, Try.func137, by kernel_rfl, rfl⟩
theorem cl138 : Calb Try.prog 138 := ⟨Try.f138, Try.func138, by kernel_rfl, rfl⟩
theorem cl139 : Calb Try.prog 139 := ⟨Try.f139, Try.func139, by kernel_rfl, rfl⟩
theorem cl14 : Calb Try.prog 14 := ⟨Try.f14, Try.func14, by kernel_rfl, rfl⟩
theorem cl140 : Calb Try.prog 140 := ⟨Try.f140, Try.func140, by kernel_rfl, rfl⟩
theorem cl141 : Calb Try.prog 141 := ⟨Try.f141, Try.func141, by kernel_rfl, rfl⟩
theorem cl142 : Calb Try.prog 142 := ⟨Try.f142, Try.func142, by kernel_rfl, rfl⟩
theorem cl143 : Calb Try.prog 143 := ⟨Try.f143, Try.func143, by kernel_rfl, rfl⟩
theorem cl144 : Calb Try.prog 144 := ⟨Try.f144, Try.func144, by kernel_rfl, rfl⟩
theorem cl145 : Calb Try.prog 145 := ⟨Try.f145, Try.func145, by kernel_rfl, rfl⟩
theorem cl146 : Calb Try.prog 146 := ⟨Try.f146, Try.func146, by kernel_rfl, rfl⟩
theorem cl147 : Calb Try.prog 147 := ⟨Try.f147, Try.func147, by kernel_rfl, rfl⟩
theorem cl148 : Calb Try.prog 148 := ⟨Try.f148, Try.func148, by kernel_rfl, rfl⟩
theorem cl149 : Calb Try.prog 149 := ⟨Try.f149, Try.func149, by kernel_rfl, rfl⟩
theorem cl15 : Calb Try.prog 15 := ⟨Try.f15, Try.func15, by kernel_rfl, rfl⟩
theorem cl150 : Calb Try.prog 150 := ⟨Try.f150, Try.func150, by kernel_rfl, rfl⟩
theorem cl151 : Calb Try.prog 151 := ⟨Try.f151, Try.func151, by kernel_rfl, rfl⟩
theorem cl152 : Calb Try.prog 152 := ⟨Try.f152, Try.func152, by kernel_rfl, rfl⟩
theorem cl153 : Calb Try.prog 153 := ⟨Try.f153, Try.func153, by kernel_rfl, rfl⟩
theorem cl154 : Calb Try.prog 154 := ⟨Try.f154, Try.func154, by kernel_rfl, rfl⟩
theorem cl155 : Calb Try.prog 155 := ⟨Try.f155, Try.func155, by kernel_rfl, rfl⟩
theorem cl156 : Calb Try.prog 156 := ⟨Try.f156, Try.func156, by kernel_rfl, rfl⟩
theorem cl157 : Calb Try.prog 157 := ⟨Try.f157, Try.func157, by kernel_rfl, rfl⟩
theorem cl158 : Calb Try.prog 158 := ⟨Try.f158, Try.func158, by kernel_rfl, rfl⟩
theorem cl159 : Calb Try.prog 159 := ⟨Try.f159, Try.func159, by kernel_rfl, rfl⟩
theorem cl16 : Calb Try.prog 16 := ⟨Try.f16, Try.func16, by kernel_rfl, rfl⟩
theorem cl160 : Calb Try.prog 160 := ⟨Try.f160, Try.func160, by kernel_rfl, rfl⟩
theorem cl161 : Calb Try.prog 161 := ⟨Try.f161, Try.func161, by kernel_rfl, rfl⟩
theorem cl162 : Calb Try.prog 162 := ⟨Try.f162, Try.func162, by kernel_rfl, rfl⟩
theorem cl163 : Calb Try.prog 163 := ⟨Try.f163, Try.func163, by kernel_rfl, rfl⟩
theorem cl164 : Calb Try.prog 164 := ⟨Try.f164, Try.func164, by kernel_rfl, rfl⟩
theorem cl165 : Calb Try.prog 165 := ⟨Try.f165, Try.func165, by kernel_rfl, rfl⟩
theorem cl166 : Calb Try.prog 166 := ⟨Try.f166, Try.func166, by kernel_rfl, rfl⟩
theorem cl167 : Calb Try.prog 167 := ⟨Try.f167, Try.func167, by kernel_rfl, rfl⟩
theorem cl168 : Calb Try.prog 168 := ⟨Try.f168, Try.func168, by kernel_rfl, rfl⟩
theorem cl169 : Calb Try.prog 169 := ⟨Try.f169, Try.func169, by kernel_rfl, rfl⟩
theorem cl17 : Calb Try.prog 17 := ⟨Try.f17, Try.func17, by kernel_rfl, rfl⟩
theorem cl170 : Calb Try.prog 170 := ⟨Try.f170, Try.func170, by kernel_rfl, rfl⟩
theorem cl171 : Calb Try.prog 171 := ⟨Try.f171, Try.func171, by kernel_rfl, rfl⟩
theorem cl172 : Calb Try.prog 172 := ⟨Try.f172, Try.func172, by kernel_rfl, rfl⟩
theorem cl173 : Calb Try.prog 173 := ⟨Try.f173, Try.func173, by kernel_rfl, rfl⟩
theorem cl174 : Calb Try.prog 174 := ⟨Try.f174, Try.func174, by kernel_rfl, rfl⟩
theorem cl175 : Calb Try.prog 175 := ⟨Try.f175, Try.func175, by kernel_rfl, rfl⟩
theorem cl176 : Calb Try.prog 176 := ⟨Try.f176, Try.func176, by kernel_rfl, rfl⟩
theorem cl177 : Calb Try.prog 177 := ⟨Try.f177, Try.func177, by kernel_rfl, rfl⟩
theorem cl178 : Calb Try.prog 178 := ⟨Try.f178, Try.func178, by kernel_rfl, rfl⟩
theorem cl179 : Calb Try.prog 179 := ⟨Try.f179, Try.func179, by kernel_rfl, rfl⟩
theorem cl18 : Calb Try.prog 18 := ⟨Try.f18, Try.func18, by kernel_rfl, rfl⟩
theorem cl180 : Calb Try.prog 180 := ⟨Try.f180, Try.func180, by kernel_rfl, rfl⟩
theorem cl181 : Calb Try.prog 181 := ⟨Try.f181, Try.func181, by kernel_rfl, rfl⟩
theorem cl182 : Calb Try.prog 182 := ⟨Try.f182, Try.func182, by kernel_rfl, rfl⟩
theorem cl183 : Calb Try.prog 183 := ⟨Try.f183, Try.func183, by kernel_rfl, rfl⟩
theorem cl184 : Calb Try.prog 184 := ⟨Try.f184, Try.func184, by kernel_rfl, rfl⟩
theorem cl185 : Calb Try.prog 185 := ⟨Try.f185, Try.func185, by kernel_rfl, rfl⟩
theorem cl186 : Calb Try.prog 186 := ⟨Try.f186, Try.func186, by kernel_rfl, rfl⟩
theorem cl187 : Calb Try.prog 187 := ⟨Try.f187, Try.func187, by kernel_rfl, rfl⟩
theorem cl188 : Calb Try.prog 188 := ⟨Try.f188, Try.func188, by kernel_rfl, rfl⟩
theorem cl189 : Calb Try.prog 189 := ⟨Try.f189, Try.func189, by kernel_rfl, rfl⟩
theorem cl19 : Calb Try.prog 19 := ⟨Try.f19, Try.func19, by kernel_rfl, rfl⟩
theorem cl2 : Calb Try.prog 2 := ⟨Try.f2, Try.func2, by kernel_rfl, rfl⟩
theorem cl20 : Calb Try.prog 20 := ⟨Try.f20, Try.func20, by kernel_rfl, rfl⟩
theorem cl21 : Calb Try.prog 21 := ⟨Try.f21, Try.func21, by kernel_rfl, rfl⟩
theorem cl22 : Calb Try.prog 22 := ⟨Try.f22, Try.func22, by kernel_rfl, rfl⟩
theorem cl23 : Calb Try.prog 23 := ⟨Try.f23, Try.func23, by kernel_rfl, rfl⟩
theorem cl24 : Calb Try.prog 24 := ⟨Try.f24, Try.func24, by kernel_rfl, rfl⟩
theorem cl25 : Calb Try.prog 25 := ⟨Try.f25, Try.func25, by kernel_rfl, rfl⟩
theorem cl26 : Calb Try.prog 26 := ⟨Try.f26, Try.func26, by kernel_rfl, rfl⟩
theorem cl27 : Calb Try.prog 27 := ⟨Try.f27, Try.func27, by kernel_rfl, rfl⟩
theorem cl28 : Calb Try.prog 28 := ⟨Try.f28, Try.func28, by kernel_rfl, rfl⟩
theorem cl29 : Calb Try.prog 29 := ⟨Try.f29, Try.func29, by kernel_rfl, rfl⟩
theorem cl3 : Calb Try.prog 3 := ⟨Try.f3, Try.func3, by kernel_rfl, rfl⟩
theorem cl30 : Calb Try.prog 30 := ⟨Try.f30, Try.func30, by kernel_rfl, rfl⟩
theorem cl31 : Calb Try.prog 31 := ⟨Try.f31, Try.func31, by kernel_rfl, rfl⟩
theorem cl32 : Calb Try.prog 32 := ⟨Try.f32, Try.func32, by kernel_rfl, rfl⟩
theorem cl33 : Calb Try.prog 33 := ⟨Try.f33, Try.func33, by kernel_rfl, rfl⟩
theorem cl34 : Calb Try.prog 34 := ⟨Try.f34, Try.func34, by kernel_rfl, rfl⟩
theorem cl35 : Calb Try.prog 35 := ⟨Try.f35, Try.func35, by kernel_rfl, rfl⟩
theorem cl36 : Calb Try.prog 36 := ⟨Try.f36, Try.func36, by kernel_rfl, rfl⟩
theorem cl37 : Calb Try.prog 37 := ⟨Try.f37, Try.func37, by kernel_rfl, rfl⟩
theorem cl38 : Calb Try.prog 38 := ⟨Try.f38, Try.func38, by kernel_rfl, rfl⟩
theorem cl39 : Calb Try.prog 39 := ⟨Try.f39, Try.func39, by kernel_rfl, rfl⟩
theorem cl4 : Calb Try.prog 4 := ⟨Try.f4, Try.func4, by kernel_rfl, rfl⟩
theorem cl40 : Calb Try.prog 40 := ⟨Try.f40, Try.func40, by kernel_rfl, rfl⟩
theorem cl41 : Calb Try.prog 41 := ⟨Try.f41, Try.func41, by kernel_rfl, rfl⟩
theorem cl42 : Calb Try.prog 42 := ⟨Try.f42, Try.func42, by kernel_rfl, rfl⟩
theorem cl43 : Calb Try.prog 43 := ⟨Try.f43, Try.func43, by kernel_rfl, rfl⟩
theorem cl44 : Calb Try.prog 44 := ⟨Try.f44, Try.func44, by kernel_rfl, rfl⟩
theorem cl45 : Calb Try.prog 45 := ⟨Try.f45, Try.func45, by kernel_rfl, rfl⟩
theorem cl46 : Calb Try.prog 46 := ⟨Try.f46, Try.func46, by kernel_rfl, rfl⟩
theorem cl47 : Calb Try.prog 47 := ⟨Try.f47, Try.func47, by kernel_rfl, rfl⟩
theorem cl48 : Calb Try.prog 48 := ⟨Try.f48, Try.func48, by kernel_rfl, rfl⟩
theorem cl49 : Calb Try.prog 49 := ⟨Try.f49, Try.func49, by kernel_rfl, rfl⟩
theorem cl5 : Calb Try.prog 5 := ⟨Try.f5, Try.func5, by kernel_rfl, rfl⟩
theorem cl50 : Calb Try.prog 50 := ⟨Try.f50, Try.func50, by kernel_rfl, rfl⟩
theorem cl51 : Calb Try.prog 51 := ⟨Try.f51, Try.func51, by kernel_rfl, rfl⟩
theorem cl52 : Calb Try.prog 52 := ⟨Try.f52, Try.func52, by kernel_rfl, rfl⟩
theorem cl53 : Calb Try.prog 53 := ⟨Try.f53, Try.func53, by kernel_rfl, rfl⟩
theorem cl54 : Calb Try.prog 54 := ⟨Try.f54, Try.func54, by kernel_rfl, rfl⟩
theorem cl55 : Calb Try.prog 55 := ⟨Try.f55, Try.func55, by kernel_rfl, rfl⟩
theorem cl56 : Calb Try.prog 56 := ⟨Try.f56, Try.func56, by kernel_rfl, rfl⟩
theorem cl57 : Calb Try.prog 57 := ⟨Try.f57, Try.func57, by kernel_rfl, rfl⟩
theorem cl58 : Calb Try.prog 58 := ⟨Try.f58, Try.func58, by kernel_rfl, rfl⟩
theorem cl59 : Calb Try.prog 59 := ⟨Try.f59, Try.func59, by kernel_rfl, rfl⟩
theorem cl6 : Calb Try.prog 6 := ⟨Try.f6, Try.func6, by kernel_rfl, rfl⟩
theorem cl60 : Calb Try.prog 60 := ⟨Try.f60, Try.func60, by kernel_rfl, rfl⟩
theorem cl61 : Calb Try.prog 61 := ⟨Try.f61, Try.func61, by kernel_rfl, rfl⟩
theorem cl62 : Calb Try.prog 62 := ⟨Try.f62, Try.func62, by kernel_rfl, rfl⟩
theorem cl63 : Calb Try.prog 63 := ⟨Try.f63, Try.func63, by kernel_rfl, rfl⟩
theorem cl64 : Calb Try.prog 64 := ⟨Try.f64, Try.func64, by kernel_rfl, rfl⟩
theorem cl65 : Calb Try.prog 65 := ⟨Try.f65, Try.func65, by kernel_rfl, rfl⟩
theorem cl66 : Calb Try.prog 66 := ⟨Try.f66, Try.func66, by kernel_rfl, rfl⟩
theorem cl67 : Calb Try.prog 67 := ⟨Try.f67, Try.func67, by kernel_rfl, rfl⟩
theorem cl68 : Calb Try.prog 68 := ⟨Try.f68, Try.func68, by kernel_rfl, rfl⟩
theorem cl69 : Calb Try.prog 69 := ⟨Try.f69, Try.func69, by kernel_rfl, rfl⟩
theorem cl7 : Calb Try.prog 7 := ⟨Try.f7, Try.func7, by kernel_rfl, rfl⟩
theorem cl70 : Calb Try.prog 70 := ⟨Try.f70, Try.func70, by kernel_rfl, rfl⟩
theorem cl71 : Calb Try.prog 71 := ⟨Try.f71, Try.func71, by kernel_rfl, rfl⟩
theorem cl72 : Calb Try.prog 72 := ⟨Try.f72, Try.func72, by kernel_rfl, rfl⟩
theorem cl73 : Calb Try.prog 73 := ⟨Try.f73, Try.func73, by kernel_rfl, rfl⟩
theorem cl74 : Calb Try.prog 74 := ⟨Try.f74, Try.func74, by kernel_rfl, rfl⟩
theorem cl75 : Calb Try.prog 75 := ⟨Try.f75, Try.func75, by kernel_rfl, rfl⟩
theorem cl76 : Calb Try.prog 76 := ⟨Try.f76, Try.func76, by kernel_rfl, rfl⟩
theorem cl77 : Calb Try.prog 77 := ⟨Try.f77, Try.func77, by kernel_rfl, rfl⟩
theorem cl78 : Calb Try.prog 78 := ⟨Try.f78, Try.func78, by kernel_rfl, rfl⟩
theorem cl79 : Calb Try.prog 79 := ⟨Try.f79, Try.func79, by kernel_rfl, rfl⟩
theorem cl8 : Calb Try.prog 8 := ⟨Try.f8, Try.func8, by kernel_rfl, rfl⟩
theorem cl80 : Calb Try.prog 80 := ⟨Try.f80, Try.func80, by kernel_rfl, rfl⟩
theorem cl81 : Calb Try.prog 81 := ⟨Try.f81, Try.func81, by kernel_rfl, rfl⟩
theorem cl82 : Calb Try.prog 82 := ⟨Try.f82, Try.func82, by kernel_rfl, rfl⟩
theorem cl83 : Calb Try.prog 83 := ⟨Try.f83, Try.func83, by kernel_rfl, rfl⟩
theorem cl84 : Calb Try.prog 84 := ⟨Try.f84, Try.func84, by kernel_rfl, rfl⟩
theorem cl85 : Calb Try.prog 85 := ⟨Try.f85, Try.func85, by kernel_rfl, rfl⟩
theorem cl86 : Calb Try.prog 86 := ⟨Try.f86, Try.func86, by kernel_rfl, rfl⟩
theorem cl87 : Calb Try.prog 87 := ⟨Try.f87, Try.func87, by kernel_rfl, rfl⟩
theorem cl88 : Calb Try.prog 88 := ⟨Try.f88, Try.func88, by kernel_rfl, rfl⟩
theorem cl89 : Calb Try.prog 89 := ⟨Try.f89, Try.func89, by kernel_rfl, rfl⟩
theorem cl9 : Calb Try.prog 9 := ⟨Try.f9, Try.func9, by kernel_rfl, rfl⟩
theorem cl90 : Calb Try.prog 90 := ⟨Try.f90, Try.func90, by kernel_rfl, rfl⟩
theorem cl91 : Calb Try.prog 91 := ⟨Try.f91, Try.func91, by kernel_rfl, rfl⟩
theorem cl92 : Calb Try.prog 92 := ⟨Try.f92, Try.func92, by kernel_rfl, rfl⟩
theorem cl93 : Calb Try.prog 93 := ⟨Try.f93, Try.func93, by kernel_rfl, rfl⟩
theorem cl94 : Calb Try.prog 94 := ⟨Try.f94, Try.func94, by kernel_rfl, rfl⟩
theorem cl95 : Calb Try.prog 95 := ⟨Try.f95, Try.func95, by kernel_rfl, rfl⟩
theorem cl96 : Calb Try.prog 96 := ⟨Try.f96, Try.func96, by kernel_rfl, rfl⟩
theorem cl97 : Calb Try.prog 97 := ⟨Try.f97, Try.func97, by kernel_rfl, rfl⟩
theorem cl98 : Calb Try.prog 98 := ⟨Try.f98, Try.func98, by kernel_rfl, rfl⟩
theorem cl99 : Calb Try.prog 99 := ⟨Try.f99, Try.func99, by kernel_rfl, rfl⟩
theorem eS22 : (elOf Try.prog 22).isSome = true := by kernel_rfl
theorem eS23 : (elOf Try.prog 23).isSome = true := by kernel_rfl
theorem eS27 : (elOf Try.prog 27).isSome = true := by kernel_rfl
theorem eS29 : (elOf Try.prog 29).isSome = true := by kernel_rfl
theorem eS30 : (elOf Try.prog 30).isSome = true := by kernel_rfl
theorem eS39 : (elOf Try.prog 39).isSome = true := by kernel_rfl
theorem eS44 : (elOf Try.prog 44).isSome = true := by kernel_rfl
theorem eS50 : (elOf Try.prog 50).isSome = true := by kernel_rfl
theorem eS62 : (elOf Try.prog 62).isSome = true := by kernel_rfl
theorem eS64 : (elOf Try.prog 64).isSome = true := by kernel_rfl
theorem eS72 : (elOf Try.prog 72).isSome = true := by kernel_rfl
theorem eS73 : (elOf Try.prog 73).isSome = true := by kernel_rfl
theorem eS82 : (elOf Try.prog 82).isSome = true := by kernel_rfl
theorem eS94 : (elOf Try.prog 94).isSome = true := by kernel_rfl
theorem eS95 : (elOf Try.prog 95).isSome = true := by kernel_rfl
theorem el146 : elOf Try.prog 146 = some (5, 1) := by kernel_rfl
theorem el22 : elOf Try.prog 22 = some (97, 2) := by kernel_rfl
theorem el23 : elOf Try.prog 23 = some (120, 3) := by kernel_rfl
theorem el27 : elOf Try.prog 27 = some (3, 1) := by kernel_rfl
theorem el29 : elOf Try.prog 29 = some (75, 2) := by kernel_rfl
theorem el30 : elOf Try.prog 30 = some (122, 3) := by kernel_rfl
theorem el39 : elOf Try.prog 39 = some (131, 3) := by kernel_rfl
theorem el44 : elOf Try.prog 44 = some (88, 3) := by kernel_rfl
theorem el50 : elOf Try.prog 50 = some (9, 1) := by kernel_rfl
theorem el62 : elOf Try.prog 62 = some (25, 5) := by kernel_rfl
theorem el64 : elOf Try.prog 64 = some (32, 5) := by kernel_rfl
theorem el72 : elOf Try.prog 72 = some (127, 2) := by kernel_rfl
theorem el73 : elOf Try.prog 73 = some (110, 2) := by kernel_rfl
theorem el82 : elOf Try.prog 82 = some (85, 2) := by kernel_rfl
theorem el94 : elOf Try.prog 94 = some (168, 2) := by kernel_rfl
theorem el95 : elOf Try.prog 95 = some (171, 2) := by kernel_rfl
theorem fd110_0 : fdOf Try.prog 110 0 = some (0, 1, false) := by kernel_rfl
theorem fd110_1 : fdOf Try.prog 110 1 = some (1, 1, false) := by kernel_rfl
theorem fd120_0 : fdOf Try.prog 120 0 = some (0, 1, false) := by kernel_rfl
theorem fd120_1 : fdOf Try.prog 120 1 = some (1, 1, false) := by kernel_rfl
theorem fd120_2 : fdOf Try.prog 120 2 = some (2, 1, false) := by kernel_rfl
theorem fd122_0 : fdOf Try.prog 122 0 = some (0, 1, false) := by kernel_rfl
theorem fd122_1 : fdOf Try.prog 122 1 = some (1, 1, false) := by kernel_rfl
theorem fd122_2 : fdOf Try.prog 122 2 = some (2, 1, false) := by kernel_rfl
theorem fd127_0 : fdOf Try.prog 127 0 = some (0, 1, false) := by kernel_rfl
theorem fd127_1 : fdOf Try.prog 127 1 = some (1, 1, false) := by kernel_rfl
theorem fd131_0 : fdOf Try.prog 131 0 = some (0, 1, false) := by kernel_rfl
theorem fd131_1 : fdOf Try.prog 131 1 = some (1, 1, false) := by kernel_rfl
theorem fd131_2 : fdOf Try.prog 131 2 = some (2, 1, false) := by kernel_rfl
theorem fd168_0 : fdOf Try.prog 168 0 = some (0, 1, false) := by kernel_rfl
theorem fd168_1 : fdOf Try.prog 168 1 = some (1, 1, false) := by kernel_rfl
theorem fd171_0 : fdOf Try.prog 171 0 = some (0, 1, false) := by kernel_rfl
theorem fd171_1 : fdOf Try.prog 171 1 = some (1, 1, false) := by kernel_rfl
theorem fd25_0 : fdOf Try.prog 25 0 = some (0, 1, false) := by kernel_rfl
theorem fd25_1 : fdOf Try.prog 25 1 = some (1, 1, false) := by kernel_rfl
theorem fd25_2 : fdOf Try.prog 25 2 = some (2, 1, false) := by kernel_rfl
theorem fd25_3 : fdOf Try.prog 25 3 = some (3, 1, false) := by kernel_rfl
theorem fd25_4 : fdOf Try.prog 25 4 = some (4, 1, false) := by kernel_rfl
theorem fd32_0 : fdOf Try.prog 32 0 = some (0, 1, false) := by kernel_rfl
theorem fd32_1 : fdOf Try.prog 32 1 = some (1, 1, false) := by kernel_rfl
theorem fd32_2 : fdOf Try.prog 32 2 = some (2, 1, false) := by kernel_rfl
theorem fd32_3 : fdOf Try.prog 32 3 = some (3, 1, false) := by kernel_rfl
theorem fd32_4 : fdOf Try.prog 32 4 = some (4, 1, false) := by kernel_rfl
theorem fd41_0 : fdOf Try.prog 41 0 = some (0, 1, false) := by kernel_rfl
theorem fd41_1 : fdOf Try.prog 41 1 = some (1, 1, false) := by kernel_rfl
theorem fd46_0 : fdOf Try.prog 46 0 = some (0, 1, false) := by kernel_rfl
theorem fd46_1 : fdOf Try.prog 46 1 = some (1, 1, false) := by kernel_rfl
theorem fd75_0 : fdOf Try.prog 75 0 = some (0, 1, false) := by kernel_rfl
theorem fd75_1 : fdOf Try.prog 75 1 = some (1, 1, false) := by kernel_rfl
theorem fd85_0 : fdOf Try.prog 85 0 = some (0, 1, false) := by kernel_rfl
theorem fd85_1 : fdOf Try.prog 85 1 = some (1, 1, false) := by kernel_rfl
theorem fd88_0 : fdOf Try.prog 88 0 = some (0, 1, false) := by kernel_rfl
theorem fd88_1 : fdOf Try.prog 88 1 = some (1, 1, false) := by kernel_rfl
theorem fd88_2 : fdOf Try.prog 88 2 = some (2, 1, false) := by kernel_rfl
theorem fd97_0 : fdOf Try.prog 97 0 = some (0, 1, false) := by kernel_rfl
theorem fd97_1 : fdOf Try.prog 97 1 = some (1, 1, false) := by kernel_rfl
theorem ik166 : inkOf Try.prog 166 = some .u64 := by kernel_rfl
theorem ik190 : inkOf Try.prog 190 = some .u32 := by kernel_rfl
theorem ik197 : inkOf Try.prog 197 = some .u64 := by kernel_rfl
theorem ik3 : inkOf Try.prog 3 = some .i64 := by kernel_rfl
theorem ik5 : inkOf Try.prog 5 = some .u8 := by kernel_rfl
theorem mp137 : mpOf Try.prog 137 = some (3, 4, .i64) := by kernel_rfl
theorem st9 : strOf Try.prog 9 = true := by kernel_rfl
theorem sz110 : szOf Try.prog 110 = some 2 := by kernel_rfl
theorem sz120 : szOf Try.prog 120 = some 3 := by kernel_rfl
theorem sz122 : szOf Try.prog 122 = some 3 := by kernel_rfl
theorem sz127 : szOf Try.prog 127 = some 2 := by kernel_rfl
theorem sz131 : szOf Try.prog 131 = some 3 := by kernel_rfl
theorem sz168 : szOf Try.prog 168 = some 2 := by kernel_rfl
theorem sz171 : szOf Try.prog 171 = some 2 := by kernel_rfl
theorem sz197 : szOf Try.prog 197 = some 1 := by kernel_rfl
theorem sz25 : szOf Try.prog 25 = some 5 := by kernel_rfl
theorem sz27 : szOf Try.prog 27 = some 1 := by kernel_rfl
theorem sz29 : szOf Try.prog 29 = some 1 := by kernel_rfl
theorem sz3 : szOf Try.prog 3 = some 1 := by kernel_rfl
theorem sz30 : szOf Try.prog 30 = some 1 := by kernel_rfl
theorem sz32 : szOf Try.prog 32 = some 5 := by kernel_rfl
theorem sz41 : szOf Try.prog 41 = some 2 := by kernel_rfl
theorem sz44 : szOf Try.prog 44 = some 1 := by kernel_rfl
theorem sz46 : szOf Try.prog 46 = some 2 := by kernel_rfl
theorem sz72 : szOf Try.prog 72 = some 1 := by kernel_rfl
theorem sz73 : szOf Try.prog 73 = some 1 := by kernel_rfl
theorem sz75 : szOf Try.prog 75 = some 2 := by kernel_rfl
theorem sz85 : szOf Try.prog 85 = some 2 := by kernel_rfl
theorem sz88 : szOf Try.prog 88 = some 3 := by kernel_rfl
theorem sz9 : szOf Try.prog 9 = some 1 := by kernel_rfl
theorem sz97 : szOf Try.prog 97 = some 2 := by kernel_rfl
theorem ze110 : zeroOf Try.prog 110 = some (.agg #[.int .i64 0, .int .i64 0]) := by kernel_rfl
theorem ze122 : zeroOf Try.prog 122 = some (.agg #[.slice none 0 0, .int .i64 0, .int .i64 0]) := by kernel_rfl
theorem ze127 : zeroOf Try.prog 127 = some (.agg #[.string ⟨#[]⟩, .string ⟨#[]⟩]) := by kernel_rfl
theorem ze197 : zeroOf Try.prog 197 = some (.int .u64 0) := by kernel_rfl
theorem ze3 : zeroOf Try.prog 3 = some (.int .i64 0) := by kernel_rfl
theorem ze32 : zeroOf Try.prog 32 = some (.agg #[.int .i64 0, .int .i64 0, .int .i64 0, .slice none 0 0, .slice none 0 0]) := by kernel_rfl
theorem ze4 : zeroOf Try.prog 4 = some (.bool false) := by kernel_rfl
theorem ze46 : zeroOf Try.prog 46 = some (.agg #[.int .i64 0, .slice none 0 0]) := by kernel_rfl
theorem ze5 : zeroOf Try.prog 5 = some (.int .u8 0) := by kernel_rfl
theorem ze75 : zeroOf Try.prog 75 = some (.agg #[.slice none 0 0, .slice none 0 0]) := by kernel_rfl
theorem ze85 : zeroOf Try.prog 85 = some (.agg #[.int .i64 0, .int .i64 0]) := by kernel_rfl
theorem ze88 : zeroOf Try.prog 88 = some (.agg #[.string ⟨#[]⟩, .int .i64 0, .slice none 0 0]) := by kernel_rfl
theorem ze9 : zeroOf Try.prog 9 = some (.string ⟨#[]⟩) := by kernel_rfl
end Go.Ring
