/- The facts of types and functions, reckoned. No condition. -/
import Derived.Test.YtbhkjbfphhfecaaGreatEg1
import Derived.Test.YtbhkjbfphhfecaaGreatProg
import Derived.KernelRfl
namespace Go.Ring
open Go Go.RowKit Go.Eager Go.Abs Go.Proofs
set_option maxRecDepth 100000
set_option linter.unusedVariables false
set_option linter.unusedSimpArgs false
theorem aS180 : (aggOf Tryz.prog 180).isSome = true := by kernel_rfl
theorem aS210 : (aggOf Tryz.prog 210).isSome = true := by kernel_rfl
theorem aS212 : (aggOf Tryz.prog 212).isSome = true := by kernel_rfl
theorem aS3 : (aggOf Tryz.prog 3).isSome = true := by kernel_rfl
theorem aS5 : (aggOf Tryz.prog 5).isSome = true := by kernel_rfl
theorem ag101 : aggOf Tryz.prog 101 = some true := by kernel_rfl
theorem ag103 : aggOf Tryz.prog 103 = some true := by kernel_rfl
theorem ag128 : aggOf Tryz.prog 128 = some true := by kernel_rfl
theorem ag132 : aggOf Tryz.prog 132 = some false := by kernel_rfl
theorem ag133 : aggOf Tryz.prog 133 = some false := by kernel_rfl
theorem ag135 : aggOf Tryz.prog 135 = some true := by kernel_rfl
theorem ag138 : aggOf Tryz.prog 138 = some true := by kernel_rfl
theorem ag214 : aggOf Tryz.prog 214 = some true := by kernel_rfl
theorem ag215 : aggOf Tryz.prog 215 = some false := by kernel_rfl
theorem ag219 : aggOf Tryz.prog 219 = some true := by kernel_rfl
theorem ag22 : aggOf Tryz.prog 22 = some false := by kernel_rfl
theorem ag220 : aggOf Tryz.prog 220 = some false := by kernel_rfl
theorem ag227 : aggOf Tryz.prog 227 = some false := by kernel_rfl
theorem ag23 : aggOf Tryz.prog 23 = some false := by kernel_rfl
theorem ag234 : aggOf Tryz.prog 234 = some true := by kernel_rfl
theorem ag235 : aggOf Tryz.prog 235 = some false := by kernel_rfl
theorem ag25 : aggOf Tryz.prog 25 = some true := by kernel_rfl
theorem ag29 : aggOf Tryz.prog 29 = some false := by kernel_rfl
theorem ag3 : aggOf Tryz.prog 3 = some false := by kernel_rfl
theorem ag31 : aggOf Tryz.prog 31 = some false := by kernel_rfl
theorem ag32 : aggOf Tryz.prog 32 = some false := by kernel_rfl
theorem ag34 : aggOf Tryz.prog 34 = some true := by kernel_rfl
theorem ag4 : aggOf Tryz.prog 4 = some false := by kernel_rfl
theorem ag5 : aggOf Tryz.prog 5 = some false := by kernel_rfl
theorem ag63 : aggOf Tryz.prog 63 = some true := by kernel_rfl
theorem ag66 : aggOf Tryz.prog 66 = some true := by kernel_rfl
theorem ag77 : aggOf Tryz.prog 77 = some true := by kernel_rfl
theorem ag80 : aggOf Tryz.prog 80 = some false := by kernel_rfl
theorem ag81 : aggOf Tryz.prog 81 = some false := by kernel_rfl
theorem ag83 : aggOf Tryz.prog 83 = some true := by kernel_rfl
theorem ag87 : aggOf Tryz.prog 87 = some true := by kernel_rfl
theorem ag9 : aggOf Tryz.prog 9 = some false := by kernel_rfl
theorem by101 : bytOf Tryz.prog 101 = some 32 := by kernel_rfl
theorem by103 : bytOf Tryz.prog 103 = some 40 := by kernel_rfl
theorem by128 : bytOf Tryz.prog 128 = some 16 := by kernel_rfl
theorem by215 : bytOf Tryz.prog 215 = some 24 := by kernel_rfl
theorem by234 : bytOf Tryz.prog 234 = some 3 := by kernel_rfl
theorem by235 : bytOf Tryz.prog 235 = some 24 := by kernel_rfl
theorem by29 : bytOf Tryz.prog 29 = some 24 := by kernel_rfl
theorem by3 : bytOf Tryz.prog 3 = some 8 := by kernel_rfl
theorem by34 : bytOf Tryz.prog 34 = some 72 := by kernel_rfl
theorem by4 : bytOf Tryz.prog 4 = some 1 := by kernel_rfl
theorem by83 : bytOf Tryz.prog 83 = some 48 := by kernel_rfl
theorem by87 : bytOf Tryz.prog 87 = some 40 := by kernel_rfl
theorem by9 : bytOf Tryz.prog 9 = some 16 := by kernel_rfl
theorem cl10 : Calb Tryz.prog 10 := ⟨Tryz.f10, Tryz.func10, by kernel_rfl, rfl⟩
theorem cl100 : Calb Tryz.prog 100 := ⟨Tryz.f100, Tryz.func100, by kernel_rfl, rfl⟩
theorem cl101 : Calb Tryz.prog 101 := ⟨Tryz.f101, Tryz.func101, by kernel_rfl, rfl⟩
theorem cl102 : Calb Tryz.prog 102 := ⟨Tryz.f102, Tryz.func102, by kernel_rfl, rfl⟩
theorem cl103 : Calb Tryz.prog 103 := ⟨Tryz.f103, Tryz.func103, by kernel_rfl, rfl⟩
theorem cl104 : Calb Tryz.prog 104 := ⟨Tryz.f104, Tryz.func104, by kernel_rfl, rfl⟩
theorem cl105 : Calb Tryz.prog 105 := ⟨Tryz.f105, Tryz.func105, by kernel_rfl, rfl⟩
theorem cl106 : Calb Tryz.prog 106 := ⟨Tryz.f106, Tryz.func106, by kernel_rfl, rfl⟩
theorem cl107 : Calb Tryz.prog 107 := ⟨Tryz.f107, Tryz.func107, by kernel_rfl, rfl⟩
theorem cl108 : Calb Tryz.prog 108 := ⟨Tryz.f108, Tryz.func108, by kernel_rfl, rfl⟩
theorem cl109 : Calb Tryz.prog 109 := ⟨Tryz.f109, Tryz.func109, by kernel_rfl, rfl⟩
theorem cl11 : Calb Tryz.prog 11 := ⟨Tryz.f11, Tryz.func11, by kernel_rfl, rfl⟩
theorem cl110 : Calb Tryz.prog 110 := ⟨Tryz.f110, Tryz.func110, by kernel_rfl, rfl⟩
theorem cl111 : Calb Tryz.prog 111 := ⟨Tryz.f111, Tryz.func111, by kernel_rfl, rfl⟩
theorem cl112 : Calb Tryz.prog 112 := ⟨Tryz.f112, Tryz.func112, by kernel_rfl, rfl⟩
theorem cl113 : Calb Tryz.prog 113 := ⟨Tryz.f113, Tryz.func113, by kernel_rfl, rfl⟩
theorem cl114 : Calb Tryz.prog 114 := ⟨Tryz.f114, Tryz.func114, by kernel_rfl, rfl⟩
theorem cl115 : Calb Tryz.prog 115 := ⟨Tryz.f115, Tryz.func115, by kernel_rfl, rfl⟩
theorem cl116 : Calb Tryz.prog 116 := ⟨Tryz.f116, Tryz.func116, by kernel_rfl, rfl⟩
theorem cl117 : Calb Tryz.prog 117 := ⟨Tryz.f117, Tryz.func117, by kernel_rfl, rfl⟩
theorem cl118 : Calb Tryz.prog 118 := ⟨Tryz.f118, Tryz.func118, by kernel_rfl, rfl⟩
theorem cl119 : Calb Tryz.prog 119 := ⟨Tryz.f119, Tryz.func119, by kernel_rfl, rfl⟩
theorem cl12 : Calb Tryz.prog 12 := ⟨Tryz.f12, Tryz.func12, by kernel_rfl, rfl⟩
theorem cl120 : Calb Tryz.prog 120 := ⟨Tryz.f120, Tryz.func120, by kernel_rfl, rfl⟩
theorem cl121 : Calb Tryz.prog 121 := ⟨Tryz.f121, Tryz.func121, by kernel_rfl, rfl⟩
theorem cl122 : Calb Tryz.prog 122 := ⟨Tryz.f122, Tryz.func122, by kernel_rfl, rfl⟩
theorem cl123 : Calb Tryz.prog 123 := ⟨Tryz.f123, Tryz.func123, by kernel_rfl, rfl⟩
theorem cl124 : Calb Tryz.prog 124 := ⟨Tryz.f124, Tryz.func124, by kernel_rfl, rfl⟩
theorem cl125 : Calb Tryz.prog 125 := ⟨Tryz.f125, Tryz.func125, by kernel_rfl, rfl⟩
theorem cl126 : Calb Tryz.prog 126 := ⟨Tryz.f126, Tryz.func126, by kernel_rfl, rfl⟩
theorem cl127 : Calb Tryz.prog 127 := ⟨Tryz.f127, Tryz.func127, by kernel_rfl, rfl⟩
theorem cl128 : Calb Tryz.prog 128 := ⟨Tryz.f128, Tryz.func128, by kernel_rfl, rfl⟩
theorem cl129 : Calb Tryz.prog 129 := ⟨Tryz.f129, Tryz.func129, by kernel_rfl, rfl⟩
theorem cl13 : Calb Tryz.prog 13 := ⟨Tryz.f13, Tryz.func13, by kernel_rfl, rfl⟩
theorem cl130 : Calb Tryz.prog 130 := ⟨Tryz.f130, Tryz.func130, by kernel_rfl, rfl⟩
theorem cl131 : Calb Tryz.prog 131 := ⟨Tryz.f131, Tryz.func131, by kernel_rfl, rfl⟩
theorem cl132 : Calb Tryz.prog 132 := ⟨Tryz.f132, Tryz.func132, by kernel_rfl, rfl⟩
theorem cl133 : Calb Tryz.prog 133 := ⟨Tryz.f133, Tryz.func133, by kernel_rfl, rfl⟩
theorem cl134 : Calb Tryz.prog 134 := ⟨Tryz.f134, Tryz.func134, by kernel_rfl, rfl⟩
theorem cl135 : Calb Tryz.prog 135 := ⟨Tryz.f135, Tryz.func135, by kernel_rfl, rfl⟩
theorem cl136 : Calb Tryz.prog 136 := ⟨Tryz.f136, Tryz.func136, by kernel_rfl, rfl⟩
theorem cl137 : Calb Tryz.prog 137 := ⟨Tryz.f137, Tryz.func137, by kernel_rfl, rfl⟩
theorem cl138 : Calb Tryz.prog 138 := ⟨Tryz.f138, Tryz.func138, by kernel_rfl, rfl⟩
theorem cl139 : Calb Tryz.prog 139 := ⟨Tryz.f139, Tryz.func139, by kernel_rfl, rfl⟩
theorem cl14 : Calb Tryz.prog 14 := ⟨Tryz.f14, Tryz.func14, by kernel_rfl, rfl⟩
theorem cl140 : Calb Tryz.prog 140 := ⟨Tryz.f140, Tryz.func140, by kernel_rfl, rfl⟩
theorem cl141 : Calb Tryz.prog 141 := ⟨Tryz.f141, Tryz.func141, by kernel_rfl, rfl⟩
theorem cl142 : Calb Tryz.prog 142 := ⟨Tryz.f142, Tryz.func142, by kernel_rfl, rfl⟩
theorem cl143 : Calb Tryz.prog 143 := ⟨Tryz.f143, Tryz.func143, by kernel_rfl, rfl⟩
theorem cl144 : Calb Tryz.prog 144 := ⟨Tryz.f144, Tryz.func144, by kernel_rfl, rfl⟩
theorem cl145 : Calb Tryz.prog 145 := ⟨Tryz.f145, Tryz.func145, by kernel_rfl, rfl⟩
theorem cl146 : Calb Tryz.prog 146 := ⟨Tryz.f146, Tryz.func146, by kernel_rfl, rfl⟩
theorem cl147 : Calb Tryz.prog 147 := ⟨Tryz.f147, Tryz.func147, by kernel_rfl, rfl⟩
theorem cl148 : Calb Tryz.prog 148 := ⟨Tryz.f148, Tryz.func148, by kernel_rfl, rfl⟩
theorem cl149 : Calb Tryz.prog 149 := ⟨Tryz.f149, Tryz.func149, by kernel_rfl, rfl⟩
theorem cl15 : Calb Tryz.prog 15 := ⟨Tryz.f15, Tryz.func15, by kernel_rfl, rfl⟩
theorem cl150 : Calb Tryz.prog 150 := ⟨Tryz.f150, Tryz.func150, by kernel_rfl, rfl⟩
theorem cl151 : Calb Tryz.prog 151 := ⟨Tryz.f151, Tryz.func151, by kernel_rfl, rfl⟩
theorem cl152 : Calb Tryz.prog 152 := ⟨Tryz.f152, Tryz.func152, by kernel_rfl, rfl⟩
theorem cl153 : Calb Tryz.prog 153 := ⟨Tryz.f153, Tryz.func153, by kernel_rfl, rfl⟩
theorem cl154 : Calb Tryz.prog 154 := ⟨Tryz.f154, Tryz.func154, by kernel_rfl, rfl⟩
theorem cl155 : Calb Tryz.prog 155 := ⟨Tryz.f155, Tryz.func155, by kernel_rfl, rfl⟩
theorem cl156 : Calb Tryz.prog 156 := ⟨Tryz.f156, Tryz.func156, by kernel_rfl, rfl⟩
theorem cl157 : Calb Tryz.prog 157 := ⟨Tryz.f157, Tryz.func157, by kernel_rfl, rfl⟩
theorem cl158 : Calb Tryz.prog 158 := ⟨Tryz.f158, Tryz.func158, by kernel_rfl, rfl⟩
theorem cl16 : Calb Tryz.prog 16 := ⟨Tryz.f16, Tryz.func16, by kernel_rfl, rfl⟩
theorem cl160 : Calb Tryz.prog 160 := ⟨Tryz.f160, Tryz.func160, by kernel_rfl, rfl⟩
theorem cl161 : Calb Tryz.prog 161 := ⟨Tryz.f161, Tryz.func161, by kernel_rfl, rfl⟩
theorem cl162 : Calb Tryz.prog 162 := ⟨Tryz.f162, Tryz.func162, by kernel_rfl, rfl⟩
theorem cl163 : Calb Tryz.prog 163 := ⟨Tryz.f163, Tryz.func163, by kernel_rfl, rfl⟩
theorem cl164 : Calb Tryz.prog 164 := ⟨Tryz.f164, Tryz.func164, by kernel_rfl, rfl⟩
theorem cl165 : Calb Tryz.prog 165 := ⟨Tryz.f165, Tryz.func165, by kernel_rfl, rfl⟩
theorem cl166 : Calb Tryz.prog 166 := ⟨Tryz.f166, Tryz.func166, by kernel_rfl, rfl⟩
theorem cl167 : Calb Tryz.prog 167 := ⟨Tryz.f167, Tryz.func167, by kernel_rfl, rfl⟩
theorem cl168 : Calb Tryz.prog 168 := ⟨Tryz.f168, Tryz.func168, by kernel_rfl, rfl⟩
theorem cl169 : Calb Tryz.prog 169 := ⟨Tryz.f169, Tryz.func169, by kernel_rfl, rfl⟩
theorem cl17 : Calb Tryz.prog 17 := ⟨Tryz.f17, Tryz.func17, by kernel_rfl, rfl⟩
theorem cl170 : Calb Tryz.prog 170 := ⟨Tryz.f170, Tryz.func170, by kernel_rfl, rfl⟩
theorem cl171 : Calb Tryz.prog 171 := ⟨Tryz.f171, Tryz.func171, by kernel_rfl, rfl⟩
theorem cl172 : Calb Tryz.prog 172 := ⟨Tryz.f172, Tryz.func172, by kernel_rfl, rfl⟩
theorem cl173 : Calb Tryz.prog 173 := ⟨Tryz.f173, Tryz.func173, by kernel_rfl, rfl⟩
theorem cl174 : Calb Tryz.prog 174 := ⟨Tryz.f174, Tryz.func174, by kernel_rfl, rfl⟩
theorem cl175 : Calb Tryz.prog 175 := ⟨Tryz.f175, Tryz.func175, by kernel_rfl, rfl⟩
theorem cl176 : Calb Tryz.prog 176 := ⟨Tryz.f176, Tryz.func176, by kernel_rfl, rfl⟩
theorem cl177 : Calb Tryz.prog 177 := ⟨Tryz.f177, Tryz.func177, by kernel_rfl, rfl⟩
theorem cl178 : Calb Tryz.prog 178 := ⟨Tryz.f178, Tryz.func178, by kernel_rfl, rfl⟩
theorem cl179 : Calb Tryz.prog 179 := ⟨Tryz.f179, Tryz.func179, by kernel_rfl, rfl⟩
theorem cl18 : Calb Tryz.prog 18 := ⟨Tryz.f18, Tryz.func18, by kernel_rfl, rfl⟩
theorem cl180 : Calb Tryz.prog 180 := ⟨Tryz.f180, Tryz.func180, by kernel_rfl, rfl⟩
theorem cl181 : Calb Tryz.prog 181 := ⟨Tryz.f181, Tryz.func181, by kernel_rfl, rfl⟩
theorem cl182 : Calb Tryz.prog 182 := ⟨Tryz.f182, Tryz.func182, by kernel_rfl, rfl⟩
theorem cl183 : Calb Tryz.prog 183 := ⟨Tryz.f183, Tryz.func183, by kernel_rfl, rfl⟩
theorem cl184 : Calb Tryz.prog 184 := ⟨Tryz.f184, Tryz.func184, by kernel_rfl, rfl⟩
theorem cl185 : Calb Tryz.prog 185 := ⟨Tryz.f185, Tryz.func185, by kernel_rfl, rfl⟩
theorem cl186 : Calb Tryz.prog 186 := ⟨Tryz.f186, Tryz.func186, by kernel_rfl, rfl⟩
theorem cl187 : Calb Tryz.prog 187 := ⟨Tryz.f187, Tryz.func187, by kernel_rfl, rfl⟩
theorem cl188 : Calb Tryz.prog 188 := ⟨Tryz.f188, Tryz.func188, by kernel_rfl, rfl⟩
theorem cl189 : Calb Tryz.prog 189 := ⟨Tryz.f189, Tryz.func189, by kernel_rfl, rfl⟩
theorem cl19 : Calb Tryz.prog 19 := ⟨Tryz.f19, Tryz.func19, by kernel_rfl, rfl⟩
theorem cl190 : Calb Tryz.prog 190 := ⟨Tryz.f190, Tryz.func190, by kernel_rfl, rfl⟩
theorem cl191 : Calb Tryz.prog 191 := ⟨Tryz.f191, Tryz.func191, by kernel_rfl, rfl⟩
theorem cl192 : Calb Tryz.prog 192 := ⟨Tryz.f192, Tryz.func192, by kernel_rfl, rfl⟩
theorem cl193 : Calb Tryz.prog 193 := ⟨Tryz.f193, Tryz.func193, by kernel_rfl, rfl⟩
theorem cl194 : Calb Tryz.prog 194 := ⟨Tryz.f194, Tryz.func194, by kernel_rfl, rfl⟩
theorem cl195 : Calb Tryz.prog 195 := ⟨Tryz.f195, Tryz.func195, by kernel_rfl, rfl⟩
theorem cl196 : Calb Tryz.prog 196 := ⟨Tryz.f196, Tryz.func196, by kernel_rfl, rfl⟩
theorem cl198 : Calb Tryz.prog 198 := ⟨Tryz.f198, Tryz.func198, by kernel_rfl, rfl⟩
theorem cl199 : Calb Tryz.prog 199 := ⟨Tryz.f199, Tryz.func199, by kernel_rfl, rfl⟩
theorem cl2 : Calb Tryz.prog 2 := ⟨Tryz.f2, Tryz.func2, by kernel_rfl, rfl⟩
theorem cl20 : Calb Tryz.prog 20 := ⟨Tryz.f20, Tryz.func20, by kernel_rfl, rfl⟩
theorem cl200 : Calb Tryz.prog 200 := ⟨Tryz.f200, Tryz.func200, by kernel_rfl, rfl⟩
theorem cl201 : Calb Tryz.prog 201 := ⟨Tryz.f201, Tryz.func201, by kernel_rfl, rfl⟩
theorem cl202 : Calb Tryz.prog 202 := ⟨Tryz.f202, Tryz.func202, by kernel_rfl, rfl⟩
theorem cl203 : Calb Tryz.prog 203 := ⟨Tryz.f203, Tryz.func203, by kernel_rfl, rfl⟩
theorem cl204 : Calb Tryz.prog 204 := ⟨Tryz.f204, Tryz.func204, by kernel_rfl, rfl⟩
theorem cl205 : Calb Tryz.prog 205 := ⟨Tryz.f205, Tryz.func205, by kernel_rfl, rfl⟩
theorem cl206 : Calb Tryz.prog 206 := ⟨Tryz.f206, Tryz.func206, by kernel_rfl, rfl⟩
theorem cl207 : Calb Tryz.prog 207 := ⟨Tryz.f207, Tryz.func207, by kernel_rfl, rfl⟩
theorem cl208 : Calb Tryz.prog 208 := ⟨Tryz.f208, Tryz.func208, by kernel_rfl, rfl⟩
theorem cl209 : Calb Tryz.prog 209 := ⟨Tryz.f209, Tryz.func209, by kernel_rfl, rfl⟩
theorem cl21 : Calb Tryz.prog 21 := ⟨Tryz.f21, Tryz.func21, by kernel_rfl, rfl⟩
theorem cl210 : Calb Tryz.prog 210 := ⟨Tryz.f210, Tryz.func210, by kernel_rfl, rfl⟩
theorem cl211 : Calb Tryz.prog 211 := ⟨Tryz.f211, Tryz.func211, by kernel_rfl, rfl⟩
theorem cl212 : Calb Tryz.prog 212 := ⟨Tryz.f212, Tryz.func212, by kernel_rfl, rfl⟩
theorem cl213 : Calb Tryz.prog 213 := ⟨Tryz.f213, Tryz.func213, by kernel_rfl, rfl⟩
theorem cl214 : Calb Tryz.prog 214 := ⟨Tryz.f214, Tryz.func214, by kernel_rfl, rfl⟩
theorem cl215 : Calb Tryz.prog 215 := ⟨Tryz.f215, Tryz.func215, by kernel_rfl, rfl⟩
theorem cl216 : Calb Tryz.prog 216 := ⟨Tryz.f216, Tryz.func216, by kernel_rfl, rfl⟩
theorem cl217 : Calb Tryz.prog 217 := ⟨Tryz.f217, Tryz.func217, by kernel_rfl, rfl⟩
theorem cl218 : Calb Tryz.prog 218 := ⟨Tryz.f218, Tryz.func218, by kernel_rfl, rfl⟩
theorem cl219 : Calb Tryz.prog 219 := ⟨Tryz.f219, Tryz.func219, by kernel_rfl, rfl⟩
theorem cl22 : Calb Tryz.prog 22 := ⟨Tryz.f22, Tryz.func22, by kernel_rfl, rfl⟩
theorem cl220 : Calb Tryz.prog 220 := ⟨Tryz.f220, Tryz.func220, by kernel_rfl, rfl⟩
theorem cl221 : Calb Tryz.prog 221 := ⟨Tryz.f221, Tryz.func221, by kernel_rfl, rfl⟩
theorem cl222 : Calb Tryz.prog 222 := ⟨Tryz.f222, Tryz.func222, by kernel_rfl, rfl⟩
theorem cl223 : Calb Tryz.prog 223 := ⟨Tryz.f223, Tryz.func223, by kernel_rfl, rfl⟩
theorem cl224 : Calb Tryz.prog 224 := ⟨Tryz.f224, Tryz.func224, by kernel_rfl, rfl⟩
theorem cl225 : Calb Tryz.prog 225 := ⟨Tryz.f225, Tryz.func225, by kernel_rfl, rfl⟩
theorem cl226 : Calb Tryz.prog 226 := ⟨Tryz.f226, Tryz.func226, by kernel_rfl, rfl⟩
theorem cl227 : Calb Tryz.prog 227 := ⟨Tryz.f227, Tryz.func227, by kernel_rfl, rfl⟩
theorem cl228 : Calb Tryz.prog 228 := ⟨Tryz.f228, Tryz.func228, by kernel_rfl, rfl⟩
theorem cl229 : Calb Tryz.prog 229 := ⟨Tryz.f229, Tryz.func229, by kernel_rfl, rfl⟩
theorem cl23 : Calb Tryz.prog 23 := ⟨Tryz.f23, Tryz.func23, by kernel_rfl, rfl⟩
theorem cl230 : Calb Tryz.prog 230 := ⟨Tryz.f230, Tryz.func230, by kernel_rfl, rfl⟩
theorem cl231 : Calb Tryz.prog 231 := ⟨Tryz.f231, Tryz.func231, by kernel_rfl, rfl⟩
theorem cl232 : Calb Tryz.prog 232 := ⟨Tryz.f232, Tryz.func232, by kernel_rfl, rfl⟩
theorem cl233 : Calb Tryz.prog 233 := ⟨Tryz.f233, Tryz.func233, by kernel_rfl, rfl⟩
theorem cl234 : Calb Tryz.prog 234 := ⟨Tryz.f234, Tryz.func234, by kernel_rfl, rfl⟩
theorem cl235 : Calb Tryz.prog 235 := ⟨Tryz.f235, Tryz.func235, by kernel_rfl, rfl⟩
theorem cl24 : Calb Tryz.prog 24 := ⟨Tryz.f24, Tryz.func24, by kernel_rfl, rfl⟩
theorem cl25 : Calb Tryz.prog 25 := ⟨Tryz.f25, Tryz.func25, by kernel_rfl, rfl⟩
theorem cl26 : Calb Tryz.prog 26 := ⟨Tryz.f26, Tryz.func26, by kernel_rfl, rfl⟩
theorem cl27 : Calb Tryz.prog 27 := ⟨Tryz.f27, Tryz.func27, by kernel_rfl, rfl⟩
theorem cl28 : Calb Tryz.prog 28 := ⟨Tryz.f28, Tryz.func28, by kernel_rfl, rfl⟩
theorem cl29 : Calb Tryz.prog 29 := ⟨Tryz.f29, Tryz.func29, by kernel_rfl, rfl⟩
theorem cl3 : Calb Tryz.prog 3 := ⟨Tryz.f3, Tryz.func3, by kernel_rfl, rfl⟩
theorem cl30 : Calb Tryz.prog 30 := ⟨Tryz.f30, Tryz.func30, by kernel_rfl, rfl⟩
theorem cl31 : Calb Tryz.prog 31 := ⟨Tryz.f31, Tryz.func31, by kernel_rfl, rfl⟩
theorem cl32 : Calb Tryz.prog 32 := ⟨Tryz.f32, Tryz.func32, by kernel_rfl, rfl⟩
theorem cl33 : Calb Tryz.prog 33 := ⟨Tryz.f33, Tryz.func33, by kernel_rfl, rfl⟩
theorem cl34 : Calb Tryz.prog 34 := ⟨Tryz.f34, Tryz.func34, by kernel_rfl, rfl⟩
theorem cl35 : Calb Tryz.prog 35 := ⟨Tryz.f35, Tryz.func35, by kernel_rfl, rfl⟩
theorem cl36 : Calb Tryz.prog 36 := ⟨Tryz.f36, Tryz.func36, by kernel_rfl, rfl⟩
theorem cl37 : Calb Tryz.prog 37 := ⟨Tryz.f37, Tryz.func37, by kernel_rfl, rfl⟩
theorem cl38 : Calb Tryz.prog 38 := ⟨Tryz.f38, Tryz.func38, by kernel_rfl, rfl⟩
theorem cl39 : Calb Tryz.prog 39 := ⟨Tryz.f39, Tryz.func39, by kernel_rfl, rfl⟩
theorem cl4 : Calb Tryz.prog 4 := ⟨Tryz.f4, Tryz.func4, by kernel_rfl, rfl⟩
theorem cl40 : Calb Tryz.prog 40 := ⟨Tryz.f40, Tryz.func40, by kernel_rfl, rfl⟩
theorem cl41 : Calb Tryz.prog 41 := ⟨Tryz.f41, Tryz.func41, by kernel_rfl, rfl⟩
theorem cl42 : Calb Tryz.prog 42 := ⟨Tryz.f42, Tryz.func42, by kernel_rfl, rfl⟩
theorem cl43 : Calb Tryz.prog 43 := ⟨Tryz.f43, Tryz.func43, by kernel_rfl, rfl⟩
theorem cl44 : Calb Tryz.prog 44 := ⟨Tryz.f44, Tryz.func44, by kernel_rfl, rfl⟩
theorem cl45 : Calb Tryz.prog 45 := ⟨Tryz.f45, Tryz.func45, by kernel_rfl, rfl⟩
theorem cl46 : Calb Tryz.prog 46 := ⟨Tryz.f46, Tryz.func46, by kernel_rfl, rfl⟩
theorem cl47 : Calb Tryz.prog 47 := ⟨Tryz.f47, Tryz.func47, by kernel_rfl, rfl⟩
theorem cl48 : Calb Tryz.prog 48 := ⟨Tryz.f48, Tryz.func48, by kernel_rfl, rfl⟩
theorem cl49 : Calb Tryz.prog 49 := ⟨Tryz.f49, Tryz.func49, by kernel_rfl, rfl⟩
theorem cl5 : Calb Tryz.prog 5 := ⟨Tryz.f5, Tryz.func5, by kernel_rfl, rfl⟩
theorem cl50 : Calb Tryz.prog 50 := ⟨Tryz.f50, Tryz.func50, by kernel_rfl, rfl⟩
theorem cl51 : Calb Tryz.prog 51 := ⟨Tryz.f51, Tryz.func51, by kernel_rfl, rfl⟩
theorem cl52 : Calb Tryz.prog 52 := ⟨Tryz.f52, Tryz.func52, by kernel_rfl, rfl⟩
theorem cl53 : Calb Tryz.prog 53 := ⟨Tryz.f53, Tryz.func53, by kernel_rfl, rfl⟩
theorem cl54 : Calb Tryz.prog 54 := ⟨Tryz.f54, Tryz.func54, by kernel_rfl, rfl⟩
theorem cl55 : Calb Tryz.prog 55 := ⟨Tryz.f55, Tryz.func55, by kernel_rfl, rfl⟩
theorem cl56 : Calb Tryz.prog 56 := ⟨Tryz.f56, Tryz.func56, by kernel_rfl, rfl⟩
theorem cl57 : Calb Tryz.prog 57 := ⟨Tryz.f57, Tryz.func57, by kernel_rfl, rfl⟩
theorem cl58 : Calb Tryz.prog 58 := ⟨Tryz.f58, Tryz.func58, by kernel_rfl, rfl⟩
theorem cl59 : Calb Tryz.prog 59 := ⟨Tryz.f59, Tryz.func59, by kernel_rfl, rfl⟩
theorem cl6 : Calb Tryz.prog 6 := ⟨Tryz.f6, Tryz.func6, by kernel_rfl, rfl⟩
theorem cl60 : Calb Tryz.prog 60 := ⟨Tryz.f60, Tryz.func60, by kernel_rfl, rfl⟩
theorem cl61 : Calb Tryz.prog 61 := ⟨Tryz.f61, Tryz.func61, by kernel_rfl, rfl⟩
theorem cl62 : Calb Tryz.prog 62 := ⟨Tryz.f62, Tryz.func62, by kernel_rfl, rfl⟩
theorem cl63 : Calb Tryz.prog 63 := ⟨Tryz.f63, Tryz.func63, by kernel_rfl, rfl⟩
theorem cl64 : Calb Tryz.prog 64 := ⟨Tryz.f64, Tryz.func64, by kernel_rfl, rfl⟩
theorem cl65 : Calb Tryz.prog 65 := ⟨Tryz.f65, Tryz.func65, by kernel_rfl, rfl⟩
theorem cl66 : Calb Tryz.prog 66 := ⟨Tryz.f66, Tryz.func66, by kernel_rfl, rfl⟩
theorem cl67 : Calb Tryz.prog 67 := ⟨Tryz.f67, Tryz.func67, by kernel_rfl, rfl⟩
theorem cl68 : Calb Tryz.prog 68 := ⟨Tryz.f68, Tryz.func68, by kernel_rfl, rfl⟩
theorem cl69 : Calb Tryz.prog 69 := ⟨Tryz.f69, Tryz.func69, by kernel_rfl, rfl⟩
theorem cl7 : Calb Tryz.prog 7 := ⟨Tryz.f7, Tryz.func7, by kernel_rfl, rfl⟩
theorem cl70 : Calb Tryz.prog 70 := ⟨Tryz.f70, Tryz.func70, by kernel_rfl, rfl⟩
theorem cl71 : Calb Tryz.prog 71 := ⟨Tryz.f71, Tryz.func71, by kernel_rfl, rfl⟩
theorem cl72 : Calb Tryz.prog 72 := ⟨Tryz.f72, Tryz.func72, by kernel_rfl, rfl⟩
theorem cl73 : Calb Tryz.prog 73 := ⟨Tryz.f73, Tryz.func73, by kernel_rfl, rfl⟩
theorem cl74 : Calb Tryz.prog 74 := ⟨Tryz.f74, Tryz.func74, by kernel_rfl, rfl⟩
theorem cl75 : Calb Tryz.prog 75 := ⟨Tryz.f75, Tryz.func75, by kernel_rfl, rfl⟩
theorem cl76 : Calb Tryz.prog 76 := ⟨Tryz.f76, Tryz.func76, by kernel_rfl, rfl⟩
theorem cl77 : Calb Tryz.prog 77 := ⟨Tryz.f77, Tryz.func77, by kernel_rfl, rfl⟩
theorem cl78 : Calb Tryz.prog 78 := ⟨Tryz.f78, Tryz.func78, by kernel_rfl, rfl⟩
theorem cl79 : Calb Tryz.prog 79 := ⟨Tryz.f79, Tryz.func79, by kernel_rfl, rfl⟩
theorem cl8 : Calb Tryz.prog 8 := ⟨Tryz.f8, Tryz.func8, by kernel_rfl, rfl⟩
theorem cl80 : Calb Tryz.prog 80 := ⟨Tryz.f80, Tryz.func80, by kernel_rfl, rfl⟩
theorem cl81 : Calb Tryz.prog 81 := ⟨Tryz.f81, Tryz.func81, by kernel_rfl, rfl⟩
theorem cl82 : Calb Tryz.prog 82 := ⟨Tryz.f82, Tryz.func82, by kernel_rfl, rfl⟩
theorem cl83 : Calb Tryz.prog 83 := ⟨Tryz.f83, Tryz.func83, by kernel_rfl, rfl⟩
theorem cl84 : Calb Tryz.prog 84 := ⟨Tryz.f84, Tryz.func84, by kernel_rfl, rfl⟩
theorem cl85 : Calb Tryz.prog 85 := ⟨Tryz.f85, Tryz.func85, by kernel_rfl, rfl⟩
theorem cl86 : Calb Tryz.prog 86 := ⟨Tryz.f86, Tryz.func86, by kernel_rfl, rfl⟩
theorem cl87 : Calb Tryz.prog 87 := ⟨Tryz.f87, Tryz.func87, by kernel_rfl, rfl⟩
theorem cl88 : Calb Tryz.prog 88 := ⟨Tryz.f88, Tryz.func88, by kernel_rfl, rfl⟩
theorem cl89 : Calb Tryz.prog 89 := ⟨Tryz.f89, Tryz.func89, by kernel_rfl, rfl⟩
theorem cl9 : Calb Tryz.prog 9 := ⟨Tryz.f9, Tryz.func9, by kernel_rfl, rfl⟩
theorem cl90 : Calb Tryz.prog 90 := ⟨Tryz.f90, Tryz.func90, by kernel_rfl, rfl⟩
theorem cl91 : Calb Tryz.prog 91 := ⟨Tryz.f91, Tryz.func91, by kernel_rfl, rfl⟩
theorem cl92 : Calb Tryz.prog 92 := ⟨Tryz.f92, Tryz.func92, by kernel_rfl, rfl⟩
theorem cl93 : Calb Tryz.prog 93 := ⟨Tryz.f93, Tryz.func93, by kernel_rfl, rfl⟩
theorem cl94 : Calb Tryz.prog 94 := ⟨Tryz.f94, Tryz.func94, by kernel_rfl, rfl⟩
theorem cl95 : Calb Tryz.prog 95 := ⟨Tryz.f95, Tryz.func95, by kernel_rfl, rfl⟩
theorem cl96 : Calb Tryz.prog 96 := ⟨Tryz.f96, Tryz.func96, by kernel_rfl, rfl⟩
theorem cl97 : Calb Tryz.prog 97 := ⟨Tryz.f97, Tryz.func97, by kernel_rfl, rfl⟩
theorem cl98 : Calb Tryz.prog 98 := ⟨Tryz.f98, Tryz.func98, by kernel_rfl, rfl⟩
theorem cl99 : Calb Tryz.prog 99 := ⟨Tryz.f99, Tryz.func99, by kernel_rfl, rfl⟩
theorem eS132 : (elOf Tryz.prog 132).isSome = true := by kernel_rfl
theorem eS133 : (elOf Tryz.prog 133).isSome = true := by kernel_rfl
theorem eS184 : (elOf Tryz.prog 184).isSome = true := by kernel_rfl
theorem eS22 : (elOf Tryz.prog 22).isSome = true := by kernel_rfl
theorem eS220 : (elOf Tryz.prog 220).isSome = true := by kernel_rfl
theorem eS23 : (elOf Tryz.prog 23).isSome = true := by kernel_rfl
theorem eS235 : (elOf Tryz.prog 235).isSome = true := by kernel_rfl
theorem eS26 : (elOf Tryz.prog 26).isSome = true := by kernel_rfl
theorem eS29 : (elOf Tryz.prog 29).isSome = true := by kernel_rfl
theorem eS31 : (elOf Tryz.prog 31).isSome = true := by kernel_rfl
theorem eS32 : (elOf Tryz.prog 32).isSome = true := by kernel_rfl
theorem eS36 : (elOf Tryz.prog 36).isSome = true := by kernel_rfl
theorem eS50 : (elOf Tryz.prog 50).isSome = true := by kernel_rfl
theorem eS53 : (elOf Tryz.prog 53).isSome = true := by kernel_rfl
theorem eS80 : (elOf Tryz.prog 80).isSome = true := by kernel_rfl
theorem eS81 : (elOf Tryz.prog 81).isSome = true := by kernel_rfl
theorem el132 : elOf Tryz.prog 132 = some (214, 2) := by kernel_rfl
theorem el133 : elOf Tryz.prog 133 = some (219, 2) := by kernel_rfl
theorem el152 : elOf Tryz.prog 152 = some (5, 1) := by kernel_rfl
theorem el184 : elOf Tryz.prog 184 = some (29, 1) := by kernel_rfl
theorem el215 : elOf Tryz.prog 215 = some (4, 1) := by kernel_rfl
theorem el22 : elOf Tryz.prog 22 = some (135, 2) := by kernel_rfl
theorem el220 : elOf Tryz.prog 220 = some (235, 1) := by kernel_rfl
theorem el223 : elOf Tryz.prog 223 = some (9, 1) := by kernel_rfl
theorem el23 : elOf Tryz.prog 23 = some (138, 3) := by kernel_rfl
theorem el235 : elOf Tryz.prog 235 = some (234, 3) := by kernel_rfl
theorem el243 : elOf Tryz.prog 243 = some (215, 1) := by kernel_rfl
theorem el26 : elOf Tryz.prog 26 = some (77, 3) := by kernel_rfl
theorem el29 : elOf Tryz.prog 29 = some (3, 1) := by kernel_rfl
theorem el31 : elOf Tryz.prog 31 = some (83, 2) := by kernel_rfl
theorem el32 : elOf Tryz.prog 32 = some (103, 3) := by kernel_rfl
theorem el36 : elOf Tryz.prog 36 = some (87, 3) := by kernel_rfl
theorem el50 : elOf Tryz.prog 50 = some (25, 5) := by kernel_rfl
theorem el53 : elOf Tryz.prog 53 = some (34, 5) := by kernel_rfl
theorem el80 : elOf Tryz.prog 80 = some (101, 2) := by kernel_rfl
theorem el81 : elOf Tryz.prog 81 = some (128, 2) := by kernel_rfl
theorem fd101_0 : fdOf Tryz.prog 101 0 = some (0, 1, false) := by kernel_rfl
theorem fd101_1 : fdOf Tryz.prog 101 1 = some (1, 1, false) := by kernel_rfl
theorem fd103_0 : fdOf Tryz.prog 103 0 = some (0, 1, false) := by kernel_rfl
theorem fd103_1 : fdOf Tryz.prog 103 1 = some (1, 1, false) := by kernel_rfl
theorem fd103_2 : fdOf Tryz.prog 103 2 = some (2, 1, false) := by kernel_rfl
theorem fd128_0 : fdOf Tryz.prog 128 0 = some (0, 1, false) := by kernel_rfl
theorem fd128_1 : fdOf Tryz.prog 128 1 = some (1, 1, false) := by kernel_rfl
theorem fd135_0 : fdOf Tryz.prog 135 0 = some (0, 1, false) := by kernel_rfl
theorem fd135_1 : fdOf Tryz.prog 135 1 = some (1, 1, false) := by kernel_rfl
theorem fd138_0 : fdOf Tryz.prog 138 0 = some (0, 1, false) := by kernel_rfl
theorem fd138_1 : fdOf Tryz.prog 138 1 = some (1, 1, false) := by kernel_rfl
theorem fd138_2 : fdOf Tryz.prog 138 2 = some (2, 1, false) := by kernel_rfl
theorem fd214_0 : fdOf Tryz.prog 214 0 = some (0, 1, false) := by kernel_rfl
theorem fd214_1 : fdOf Tryz.prog 214 1 = some (1, 1, false) := by kernel_rfl
theorem fd219_0 : fdOf Tryz.prog 219 0 = some (0, 1, false) := by kernel_rfl
theorem fd219_1 : fdOf Tryz.prog 219 1 = some (1, 1, false) := by kernel_rfl
theorem fd234_0 : fdOf Tryz.prog 234 0 = some (0, 1, false) := by kernel_rfl
theorem fd234_1 : fdOf Tryz.prog 234 1 = some (1, 1, false) := by kernel_rfl
theorem fd234_2 : fdOf Tryz.prog 234 2 = some (2, 1, false) := by kernel_rfl
theorem fd25_0 : fdOf Tryz.prog 25 0 = some (0, 1, false) := by kernel_rfl
theorem fd25_1 : fdOf Tryz.prog 25 1 = some (1, 1, false) := by kernel_rfl
theorem fd25_2 : fdOf Tryz.prog 25 2 = some (2, 1, false) := by kernel_rfl
theorem fd25_3 : fdOf Tryz.prog 25 3 = some (3, 1, false) := by kernel_rfl
theorem fd25_4 : fdOf Tryz.prog 25 4 = some (4, 1, false) := by kernel_rfl
theorem fd34_0 : fdOf Tryz.prog 34 0 = some (0, 1, false) := by kernel_rfl
theorem fd34_1 : fdOf Tryz.prog 34 1 = some (1, 1, false) := by kernel_rfl
theorem fd34_2 : fdOf Tryz.prog 34 2 = some (2, 1, false) := by kernel_rfl
theorem fd34_3 : fdOf Tryz.prog 34 3 = some (3, 1, false) := by kernel_rfl
theorem fd34_4 : fdOf Tryz.prog 34 4 = some (4, 1, false) := by kernel_rfl
theorem fd63_0 : fdOf Tryz.prog 63 0 = some (0, 1, false) := by kernel_rfl
theorem fd63_1 : fdOf Tryz.prog 63 1 = some (1, 1, false) := by kernel_rfl
theorem fd63_2 : fdOf Tryz.prog 63 2 = some (2, 1, false) := by kernel_rfl
theorem fd63_3 : fdOf Tryz.prog 63 3 = some (3, 1, false) := by kernel_rfl
theorem fd66_0 : fdOf Tryz.prog 66 0 = some (0, 1, false) := by kernel_rfl
theorem fd66_1 : fdOf Tryz.prog 66 1 = some (1, 1, false) := by kernel_rfl
theorem fd66_2 : fdOf Tryz.prog 66 2 = some (2, 1, false) := by kernel_rfl
theorem fd66_3 : fdOf Tryz.prog 66 3 = some (3, 1, false) := by kernel_rfl
theorem fd77_0 : fdOf Tryz.prog 77 0 = some (0, 1, false) := by kernel_rfl
theorem fd77_1 : fdOf Tryz.prog 77 1 = some (1, 1, false) := by kernel_rfl
theorem fd77_2 : fdOf Tryz.prog 77 2 = some (2, 1, false) := by kernel_rfl
theorem fd83_0 : fdOf Tryz.prog 83 0 = some (0, 1, false) := by kernel_rfl
theorem fd83_1 : fdOf Tryz.prog 83 1 = some (1, 1, false) := by kernel_rfl
theorem fd87_0 : fdOf Tryz.prog 87 0 = some (0, 1, false) := by kernel_rfl
theorem fd87_1 : fdOf Tryz.prog 87 1 = some (1, 1, false) := by kernel_rfl
theorem fd87_2 : fdOf Tryz.prog 87 2 = some (2, 1, false) := by kernel_rfl
theorem ik180 : inkOf Tryz.prog 180 = some .u64 := by kernel_rfl
theorem ik210 : inkOf Tryz.prog 210 = some .u32 := by kernel_rfl
theorem ik227 : inkOf Tryz.prog 227 = some .u64 := by kernel_rfl
theorem ik3 : inkOf Tryz.prog 3 = some .i64 := by kernel_rfl
theorem ik5 : inkOf Tryz.prog 5 = some .u8 := by kernel_rfl
theorem st9 : strOf Tryz.prog 9 = true := by kernel_rfl
theorem sz101 : szOf Tryz.prog 101 = some 2 := by kernel_rfl
theorem sz103 : szOf Tryz.prog 103 = some 3 := by kernel_rfl
theorem sz128 : szOf Tryz.prog 128 = some 2 := by kernel_rfl
theorem sz135 : szOf Tryz.prog 135 = some 2 := by kernel_rfl
theorem sz138 : szOf Tryz.prog 138 = some 3 := by kernel_rfl
theorem sz214 : szOf Tryz.prog 214 = some 2 := by kernel_rfl
theorem sz215 : szOf Tryz.prog 215 = some 1 := by kernel_rfl
theorem sz219 : szOf Tryz.prog 219 = some 2 := by kernel_rfl
theorem sz220 : szOf Tryz.prog 220 = some 1 := by kernel_rfl
theorem sz227 : szOf Tryz.prog 227 = some 1 := by kernel_rfl
theorem sz234 : szOf Tryz.prog 234 = some 3 := by kernel_rfl
theorem sz25 : szOf Tryz.prog 25 = some 5 := by kernel_rfl
theorem sz3 : szOf Tryz.prog 3 = some 1 := by kernel_rfl
theorem sz31 : szOf Tryz.prog 31 = some 1 := by kernel_rfl
theorem sz32 : szOf Tryz.prog 32 = some 1 := by kernel_rfl
theorem sz34 : szOf Tryz.prog 34 = some 5 := by kernel_rfl
theorem sz4 : szOf Tryz.prog 4 = some 1 := by kernel_rfl
theorem sz63 : szOf Tryz.prog 63 = some 4 := by kernel_rfl
theorem sz66 : szOf Tryz.prog 66 = some 4 := by kernel_rfl
theorem sz77 : szOf Tryz.prog 77 = some 3 := by kernel_rfl
theorem sz80 : szOf Tryz.prog 80 = some 1 := by kernel_rfl
theorem sz81 : szOf Tryz.prog 81 = some 1 := by kernel_rfl
theorem sz83 : szOf Tryz.prog 83 = some 2 := by kernel_rfl
theorem sz87 : szOf Tryz.prog 87 = some 3 := by kernel_rfl
theorem sz9 : szOf Tryz.prog 9 = some 1 := by kernel_rfl
theorem ze101 : zeroOf Tryz.prog 101 = some (.agg #[.string ⟨#[]⟩, .string ⟨#[]⟩]) := by kernel_rfl
theorem ze103 : zeroOf Tryz.prog 103 = some (.agg #[.slice none 0 0, .int .i64 0, .int .i64 0]) := by kernel_rfl
theorem ze128 : zeroOf Tryz.prog 128 = some (.agg #[.int .i64 0, .int .i64 0]) := by kernel_rfl
theorem ze215 : zeroOf Tryz.prog 215 = some (.slice none 0 0) := by kernel_rfl
theorem ze220 : zeroOf Tryz.prog 220 = some (.slice none 0 0) := by kernel_rfl
theorem ze227 : zeroOf Tryz.prog 227 = some (.int .u64 0) := by kernel_rfl
theorem ze234 : zeroOf Tryz.prog 234 = some (.agg #[.int .u8 0, .bool false, .bool false]) := by kernel_rfl
theorem ze235 : zeroOf Tryz.prog 235 = some (.slice none 0 0) := by kernel_rfl
theorem ze29 : zeroOf Tryz.prog 29 = some (.slice none 0 0) := by kernel_rfl
theorem ze3 : zeroOf Tryz.prog 3 = some (.int .i64 0) := by kernel_rfl
theorem ze34 : zeroOf Tryz.prog 34 = some (.agg #[.int .i64 0, .int .i64 0, .int .i64 0, .slice none 0 0, .slice none 0 0]) := by kernel_rfl
theorem ze4 : zeroOf Tryz.prog 4 = some (.bool false) := by kernel_rfl
theorem ze5 : zeroOf Tryz.prog 5 = some (.int .u8 0) := by kernel_rfl
theorem ze66 : zeroOf Tryz.prog 66 = some (.agg #[.int .i64 0, .int .i64 0, .int .i64 0, .slice none 0 0]) := by kernel_rfl
theorem ze83 : zeroOf Tryz.prog 83 = some (.agg #[.slice none 0 0, .slice none 0 0]) := by kernel_rfl
theorem ze87 : zeroOf Tryz.prog 87 = some (.agg #[.string ⟨#[]⟩, .int .i64 0, .string ⟨#[]⟩]) := by kernel_rfl
theorem ze9 : zeroOf Tryz.prog 9 = some (.string ⟨#[]⟩) := by kernel_rfl
end Go.Ring
