/- The facts of types and functions, reckoned. No condition. -/
import Derived.Test.YtgofadkgmogbgaaEg1
import Derived.Test.YtgofadkgmogbgaaProg
import Derived.KernelRfl
namespace Go.Ring
open Go Go.RowKit Go.Eager Go.Abs Go.Proofs
set_option maxRecDepth 100000
set_option linter.unusedVariables false
set_option linter.unusedSimpArgs false
theorem aS113 : (aggOf Try.prog 113).isSome = true := by kernel_rfl
theorem aS228 : (aggOf Try.prog 228).isSome = true := by kernel_rfl
theorem aS275 : (aggOf Try.prog 275).isSome = true := by kernel_rfl
theorem aS3 : (aggOf Try.prog 3).isSome = true := by kernel_rfl
theorem aS5 : (aggOf Try.prog 5).isSome = true := by kernel_rfl
theorem ag104 : aggOf Try.prog 104 = some false := by kernel_rfl
theorem ag106 : aggOf Try.prog 106 = some true := by kernel_rfl
theorem ag108 : aggOf Try.prog 108 = some true := by kernel_rfl
theorem ag113 : aggOf Try.prog 113 = some false := by kernel_rfl
theorem ag124 : aggOf Try.prog 124 = some false := by kernel_rfl
theorem ag127 : aggOf Try.prog 127 = some false := by kernel_rfl
theorem ag135 : aggOf Try.prog 135 = some true := by kernel_rfl
theorem ag152 : aggOf Try.prog 152 = some true := by kernel_rfl
theorem ag154 : aggOf Try.prog 154 = some true := by kernel_rfl
theorem ag156 : aggOf Try.prog 156 = some true := by kernel_rfl
theorem ag172 : aggOf Try.prog 172 = some false := by kernel_rfl
theorem ag174 : aggOf Try.prog 174 = some true := by kernel_rfl
theorem ag182 : aggOf Try.prog 182 = some true := by kernel_rfl
theorem ag199 : aggOf Try.prog 199 = some false := by kernel_rfl
theorem ag203 : aggOf Try.prog 203 = some true := by kernel_rfl
theorem ag207 : aggOf Try.prog 207 = some false := by kernel_rfl
theorem ag22 : aggOf Try.prog 22 = some false := by kernel_rfl
theorem ag238 : aggOf Try.prog 238 = some true := by kernel_rfl
theorem ag248 : aggOf Try.prog 248 = some true := by kernel_rfl
theorem ag254 : aggOf Try.prog 254 = some true := by kernel_rfl
theorem ag277 : aggOf Try.prog 277 = some false := by kernel_rfl
theorem ag3 : aggOf Try.prog 3 = some false := by kernel_rfl
theorem ag32 : aggOf Try.prog 32 = some false := by kernel_rfl
theorem ag4 : aggOf Try.prog 4 = some false := by kernel_rfl
theorem ag41 : aggOf Try.prog 41 = some true := by kernel_rfl
theorem ag47 : aggOf Try.prog 47 = some true := by kernel_rfl
theorem ag49 : aggOf Try.prog 49 = some false := by kernel_rfl
theorem ag5 : aggOf Try.prog 5 = some false := by kernel_rfl
theorem ag52 : aggOf Try.prog 52 = some false := by kernel_rfl
theorem ag53 : aggOf Try.prog 53 = some false := by kernel_rfl
theorem ag55 : aggOf Try.prog 55 = some true := by kernel_rfl
theorem ag60 : aggOf Try.prog 60 = some true := by kernel_rfl
theorem ag61 : aggOf Try.prog 61 = some false := by kernel_rfl
theorem ag71 : aggOf Try.prog 71 = some true := by kernel_rfl
theorem ag75 : aggOf Try.prog 75 = some false := by kernel_rfl
theorem ag84 : aggOf Try.prog 84 = some true := by kernel_rfl
theorem ag9 : aggOf Try.prog 9 = some false := by kernel_rfl
theorem ag97 : aggOf Try.prog 97 = some false := by kernel_rfl
theorem ag99 : aggOf Try.prog 99 = some true := by kernel_rfl
theorem by108 : bytOf Try.prog 108 = some 48 := by kernel_rfl
theorem by127 : bytOf Try.prog 127 = some 24 := by kernel_rfl
theorem by135 : bytOf Try.prog 135 = some 16 := by kernel_rfl
theorem by152 : bytOf Try.prog 152 = some 40 := by kernel_rfl
theorem by154 : bytOf Try.prog 154 = some 48 := by kernel_rfl
theorem by156 : bytOf Try.prog 156 = some 32 := by kernel_rfl
theorem by199 : bytOf Try.prog 199 = some 24 := by kernel_rfl
theorem by203 : bytOf Try.prog 203 = some 3 := by kernel_rfl
theorem by207 : bytOf Try.prog 207 = some 24 := by kernel_rfl
theorem by238 : bytOf Try.prog 238 = some 16 := by kernel_rfl
theorem by248 : bytOf Try.prog 248 = some 48 := by kernel_rfl
theorem by3 : bytOf Try.prog 3 = some 8 := by kernel_rfl
theorem by4 : bytOf Try.prog 4 = some 1 := by kernel_rfl
theorem by41 : bytOf Try.prog 41 = some 64 := by kernel_rfl
theorem by49 : bytOf Try.prog 49 = some 24 := by kernel_rfl
theorem by5 : bytOf Try.prog 5 = some 1 := by kernel_rfl
theorem by53 : bytOf Try.prog 53 = some 24 := by kernel_rfl
theorem by60 : bytOf Try.prog 60 = some 32 := by kernel_rfl
theorem by61 : bytOf Try.prog 61 = some 24 := by kernel_rfl
theorem by71 : bytOf Try.prog 71 = some 32 := by kernel_rfl
theorem by9 : bytOf Try.prog 9 = some 16 := by kernel_rfl
theorem cl10 : Calb Try.prog 10 := ⟨Try.f10, Try.func10, by kernel_rfl, rfl⟩
theorem cl100 : Calb Try.prog 100 := ⟨Try.f100, Try.func100, by kernel_rfl, rfl⟩
theorem cl101 : Calb Try.prog 101 := ⟨Try.f101, Try.func101, by kernel_rfl, rfl⟩
theorem cl102 : Calb Try.prog 102 := ⟨Try.f102, Try.func102, by kernel_rfl, rfl⟩
theorem cl103 : Calb Try.prog 103 := ⟨Try.f103, Try.func103, by kernel_rfl, rfl⟩
theorem cl104 : Calb Try.prog 104 := ⟨Try.f104, Try.func104, by kernel_rfl, rfl⟩
theorem cl105 : Calb Try.prog 105 := ⟨Try.f105, Try.func105, by kernel_rfl, rfl⟩
theorem cl106 : Calb Try.prog 106 := ⟨Try.f106, Try.func106, by kernel_rfl, rfl⟩
theorem cl107 : Calb Try.prog 107 := ⟨Try.f107, Try.func107, by kernel_rfl, rfl⟩
theorem cl108 : Calb Try.prog 108 := ⟨Try.f108, Try.func108, by kernel_rfl, rfl⟩
theorem cl109 : Calb Try.prog 109 := ⟨Try.f109, Try.func109, by kernel_rfl, rfl⟩
theorem cl11 : Calb Try.prog 11 := ⟨Try.f11, Try.func11, by kernel_rfl, rfl⟩
theorem cl110 : Calb Try.prog 110 := ⟨Try.f110, Try.func110, by kernel_rfl, rfl⟩
theorem cl111 : Calb Try.prog 111 := ⟨Try.f111, Try.func111, by kernel_rfl, rfl⟩
theorem cl112 : Calb Try.prog 112 := ⟨Try.f112, Try.func112, by kernel_rfl, rfl⟩
theorem cl113 : Calb Try.prog 113 := ⟨Try.f113, Try.func113, by kernel_rfl, rfl⟩
theorem cl114 : Calb Try.prog 114 := ⟨Try.f114, Try.func114, by kernel_rfl, rfl⟩
theorem cl115 : Calb Try.prog 115 := ⟨Try.f115, Try.func115, by kernel_rfl, rfl⟩
theorem cl116 : Calb Try.prog 116 := ⟨Try.f116, Try.func116, by kernel_rfl, rfl⟩
theorem cl117 : Calb Try.prog 117 := ⟨Try.f117, Try.func117, by kernel_rfl, rfl⟩
theorem cl118 : Calb Try.prog 118 := ⟨Try.f118, Try.func118, by kernel_rfl, rfl⟩
theorem cl119 : Calb Try.prog 119 := ⟨Try.f119, Try.func119, by kernel_rfl, rfl⟩
theorem cl12 : Calb Try.prog 12 := ⟨Try.f12, Try.func12, by kernel_rfl, rfl⟩
theorem cl120 : Calb Try.prog 120 := ⟨Try.f120, Try.func120, by kernel_rfl, rfl⟩
theorem cl121 : Calb Try.prog 121 := ⟨Try.f121, Try.func121, by kernel_rfl, rfl⟩
theorem cl122 : Calb Try.prog 122 := ⟨Try.f122, Try.func122, by kernel_rfl, rfl⟩
theorem cl123 : Calb Try.prog 123 := ⟨Try.f123, Try.func123, by kernel_rfl, rfl⟩
theorem cl124 : Calb Try.prog 124 := ⟨Try.f124, Try.func124, by kernel_rfl, rfl⟩
theorem cl125 : Calb Try.prog 125 := ⟨Try.f125, Try.func125, by kernel_rfl, rfl⟩
theorem cl126 : Calb Try.prog 126 := ⟨Try.f126, Try.func126, by kernel_rfl, rfl⟩
theorem cl127 : Calb Try.prog 127 := ⟨Try.f127, Try.func127, by kernel_rfl, rfl⟩
theorem cl128 : Calb Try.prog 128 := ⟨Try.f128, Try.func128, by kernel_rfl, rfl⟩
theorem cl129 : Calb Try.prog 129 := ⟨Try.f129, Try.func129, by kernel_rfl, rfl⟩
theorem cl13 : Calb Try.prog 13 := ⟨Try.f13, Try.func13, by kernel_rfl, rfl⟩
theorem cl130 : Calb Try.prog 130 := ⟨Try.f130, Try.func130, by kernel_rfl, rfl⟩
theorem cl131 : Calb Try.prog 131 := ⟨Try.f131, Try.func131, by kernel_rfl, rfl⟩
theorem cl132 : Calb Try.prog 132 := ⟨Try.f132, Try.func132, by kernel_rfl, rfl⟩
theorem cl133 : Calb Try.prog 133 := ⟨Try.f133, Try.func133, by kernel_rfl, rfl⟩
theorem cl134 : Calb Try.prog 134 := ⟨Try.f134, Try.func134, by kernel_rfl, rfl⟩
theorem cl135 : Calb Try.prog 135 := ⟨Try.f135, Try.func135, by kernel_rfl, rfl⟩
theorem cl136 : Calb Try.prog 136 := ⟨Try.f136, Try.func136, by kernel_rfl, rfl⟩
theorem cl137 : Calb Try.prog 137 := ⟨Try.f137, Try.func137, by kernel_rfl, rfl⟩
theorem cl138 : Calb Try.prog 138 := ⟨Try.f138, Try.func138, by kernel_rfl, rfl⟩
theorem cl139 : Calb Try.prog 139 := ⟨Try.f139, Try.func139, by kernel_rfl, rfl⟩
theorem cl14 : Calb Try.prog 14 := ⟨Try.f14, Try.func14, by kernel_rfl, rfl⟩
theorem cl140 : Calb Try.prog 140 := ⟨Try.f140, Try.func140, by kernel_rfl, rfl⟩
theorem cl141 : Calb Try.prog 141 := ⟨Try.f141, Try.func141, by kernel_rfl, rfl⟩
theorem cl142 : Calb Try.prog 142 := ⟨Try.f142, Try.func142, by kernel_rfl, rfl⟩
theorem cl143 : Calb Try.prog 143 := ⟨Try.f143, Try.func143, by kernel_rfl, rfl⟩
theorem cl144 : Calb Try.prog 144 := ⟨Try.f144, Try.func144, by kernel_rfl, rfl⟩
theorem cl145 : Calb Try.prog 145 := ⟨Try.f145, Try.func145, by kernel_rfl, rfl⟩
theorem cl146 : Calb Try.prog 146 := ⟨Try.f146, Try.func146, by kernel_rfl, rfl⟩
theorem cl147 : Calb Try.prog 147 := ⟨Try.f147, Try.func147, by kernel_rfl, rfl⟩
theorem cl148 : Calb Try.prog 148 := ⟨Try.f148, Try.func148, by kernel_rfl, rfl⟩
theorem cl149 : Calb Try.prog 149 := ⟨Try.f149, Try.func149, by kernel_rfl, rfl⟩
theorem cl15 : Calb Try.prog 15 := ⟨Try.f15, Try.func15, by kernel_rfl, rfl⟩
theorem cl150 : Calb Try.prog 150 := ⟨Try.f150, Try.func150, by kernel_rfl, rfl⟩
theorem cl151 : Calb Try.prog 151 := ⟨Try.f151, Try.func151, by kernel_rfl, rfl⟩
theorem cl152 : Calb Try.prog 152 := ⟨Try.f152, Try.func152, by kernel_rfl, rfl⟩
theorem cl153 : Calb Try.prog 153 := ⟨Try.f153, Try.func153, by kernel_rfl, rfl⟩
theorem cl154 : Calb Try.prog 154 := ⟨Try.f154, Try.func154, by kernel_rfl, rfl⟩
theorem cl155 : Calb Try.prog 155 := ⟨Try.f155, Try.func155, by kernel_rfl, rfl⟩
theorem cl156 : Calb Try.prog 156 := ⟨Try.f156, Try.func156, by kernel_rfl, rfl⟩
theorem cl157 : Calb Try.prog 157 := ⟨Try.f157, Try.func157, by kernel_rfl, rfl⟩
theorem cl158 : Calb Try.prog 158 := ⟨Try.f158, Try.func158, by kernel_rfl, rfl⟩
theorem cl159 : Calb Try.prog 159 := ⟨Try.f159, Try.func159, by kernel_rfl, rfl⟩
theorem cl16 : Calb Try.prog 16 := ⟨Try.f16, Try.func16, by kernel_rfl, rfl⟩
theorem cl160 : Calb Try.prog 160 := ⟨Try.f160, Try.func160, by kernel_rfl, rfl⟩
theorem cl161 : Calb Try.prog 161 := ⟨Try.f161, Try.func161, by kernel_rfl, rfl⟩
theorem cl162 : Calb Try.prog 162 := ⟨Try.f162, Try.func162, by kernel_rfl, rfl⟩
theorem cl163 : Calb Try.prog 163 := ⟨Try.f163, Try.func163, by kernel_rfl, rfl⟩
theorem cl164 : Calb Try.prog 164 := ⟨Try.f164, Try.func164, by kernel_rfl, rfl⟩
theorem cl165 : Calb Try.prog 165 := ⟨Try.f165, Try.func165, by kernel_rfl, rfl⟩
theorem cl166 : Calb Try.prog 166 := ⟨Try.f166, Try.func166, by kernel_rfl, rfl⟩
theorem cl167 : Calb Try.prog 167 := ⟨Try.f167, Try.func167, by kernel_rfl, rfl⟩
theorem cl168 : Calb Try.prog 168 := ⟨Try.f168, Try.func168, by kernel_rfl, rfl⟩
theorem cl169 : Calb Try.prog 169 := ⟨Try.f169, Try.func169, by kernel_rfl, rfl⟩
theorem cl17 : Calb Try.prog 17 := ⟨Try.f17, Try.func17, by kernel_rfl, rfl⟩
theorem cl170 : Calb Try.prog 170 := ⟨Try.f170, Try.func170, by kernel_rfl, rfl⟩
theorem cl171 : Calb Try.prog 171 := ⟨Try.f171, Try.func171, by kernel_rfl, rfl⟩
theorem cl172 : Calb Try.prog 172 := ⟨Try.f172, Try.func172, by kernel_rfl, rfl⟩
theorem cl173 : Calb Try.prog 173 := ⟨Try.f173, Try.func173, by kernel_rfl, rfl⟩
theorem cl174 : Calb Try.prog 174 := ⟨Try.f174, Try.func174, by kernel_rfl, rfl⟩
theorem cl175 : Calb Try.prog 175 := ⟨Try.f175, Try.func175, by kernel_rfl, rfl⟩
theorem cl176 : Calb Try.prog 176 := ⟨Try.f176, Try.func176, by kernel_rfl, rfl⟩
theorem cl177 : Calb Try.prog 177 := ⟨Try.f177, Try.func177, by kernel_rfl, rfl⟩
theorem cl178 : Calb Try.prog 178 := ⟨Try.f178, Try.func178, by kernel_rfl, rfl⟩
theorem cl179 : Calb Try.prog 179 := ⟨Try.f179, Try.func179, by kernel_rfl, rfl⟩
theorem cl18 : Calb Try.prog 18 := ⟨Try.f18, Try.func18, by kernel_rfl, rfl⟩
theorem cl180 : Calb Try.prog 180 := ⟨Try.f180, Try.func180, by kernel_rfl, rfl⟩
theorem cl181 : Calb Try.prog 181 := ⟨Try.f181, Try.func181, by kernel_rfl, rfl⟩
theorem cl182 : Calb Try.prog 182 := ⟨Try.f182, Try.func182, by kernel_rfl, rfl⟩
theorem cl183 : Calb Try.prog 183 := ⟨Try.f183, Try.func183, by kernel_rfl, rfl⟩
theorem cl184 : Calb Try.prog 184 := ⟨Try.f184, Try.func184, by kernel_rfl, rfl⟩
theorem cl185 : Calb Try.prog 185 := ⟨Try.f185, Try.func185, by kernel_rfl, rfl⟩
theorem cl186 : Calb Try.prog 186 := ⟨Try.f186, Try.func186, by kernel_rfl, rfl⟩
theorem cl187 : Calb Try.prog 187 := ⟨Try.f187, Try.func187, by kernel_rfl, rfl⟩
theorem cl188 : Calb Try.prog 188 := ⟨Try.f188, Try.func188, by kernel_rfl, rfl⟩
theorem cl189 : Calb Try.prog 189 := ⟨Try.f189, Try.func189, by kernel_rfl, rfl⟩
theorem cl19 : Calb Try.prog 19 := ⟨Try.f19, Try.func19, by kernel_rfl, rfl⟩
theorem cl190 : Calb Try.prog 190 := ⟨Try.f190, Try.func190, by kernel_rfl, rfl⟩
theorem cl191 : Calb Try.prog 191 := ⟨Try.f191, Try.func191, by kernel_rfl, rfl⟩
theorem cl192 : Calb Try.prog 192 := ⟨Try.f192, Try.func192, by kernel_rfl, rfl⟩
theorem cl193 : Calb Try.prog 193 := ⟨Try.f193, Try.func193, by kernel_rfl, rfl⟩
theorem cl194 : Calb Try.prog 194 := ⟨Try.f194, Try.func194, by kernel_rfl, rfl⟩
theorem cl195 : Calb Try.prog 195 := ⟨Try.f195, Try.func195, by kernel_rfl, rfl⟩
theorem cl196 : Calb Try.prog 196 := ⟨Try.f196, Try.func196, by kernel_rfl, rfl⟩
theorem cl197 : Calb Try.prog 197 := ⟨Try.f197, Try.func197, by kernel_rfl, rfl⟩
theorem cl198 : Calb Try.prog 198 := ⟨Try.f198, Try.func198, by kernel_rfl, rfl⟩
theorem cl199 : Calb Try.prog 199 := ⟨Try.f199, Try.func199, by kernel_rfl, rfl⟩
theorem cl2 : Calb Try.prog 2 := ⟨Try.f2, Try.func2, by kernel_rfl, rfl⟩
theorem cl20 : Calb Try.prog 20 := ⟨Try.f20, Try.func20, by kernel_rfl, rfl⟩
theorem cl200 : Calb Try.prog 200 := ⟨Try.f200, Try.func200, by kernel_rfl, rfl⟩
theorem cl201 : Calb Try.prog 201 := ⟨Try.f201, Try.func201, by kernel_rfl, rfl⟩
theorem cl202 : Calb Try.prog 202 := ⟨Try.f202, Try.func202, by kernel_rfl, rfl⟩
theorem cl203 : Calb Try.prog 203 := ⟨Try.f203, Try.func203, by kernel_rfl, rfl⟩
theorem cl204 : Calb Try.prog 204 := ⟨Try.f204, Try.func204, by kernel_rfl, rfl⟩
theorem cl205 : Calb Try.prog 205 := ⟨Try.f205, Try.func205, by kernel_rfl, rfl⟩
theorem cl206 : Calb Try.prog 206 := ⟨Try.f206, Try.func206, by kernel_rfl, rfl⟩
theorem cl207 : Calb Try.prog 207 := ⟨Try.f207, Try.func207, by kernel_rfl, rfl⟩
theorem cl208 : Calb Try.prog 208 := ⟨Try.f208, Try.func208, by kernel_rfl, rfl⟩
theorem cl209 : Calb Try.prog 209 := ⟨Try.f209, Try.func209, by kernel_rfl, rfl⟩
theorem cl21 : Calb Try.prog 21 := ⟨Try.f21, Try.func21, by kernel_rfl, rfl⟩
theorem cl210 : Calb Try.prog 210 := ⟨Try.f210, Try.func210, by kernel_rfl, rfl⟩
theorem cl211 : Calb Try.prog 211 := ⟨Try.f211, Try.func211, by kernel_rfl, rfl⟩
theorem cl212 : Calb Try.prog 212 := ⟨Try.f212, Try.func212, by kernel_rfl, rfl⟩
theorem cl213 : Calb Try.prog 213 := ⟨Try.f213, Try.func213, by kernel_rfl, rfl⟩
theorem cl214 : Calb Try.prog 214 := ⟨Try.f214, Try.func214, by kernel_rfl, rfl⟩
theorem cl215 : Calb Try.prog 215 := ⟨Try.f215, Try.func215, by kernel_rfl, rfl⟩
theorem cl216 : Calb Try.prog 216 := ⟨Try.f216, Try.func216, by kernel_rfl, rfl⟩
theorem cl217 : Calb Try.prog 217 := ⟨Try.f217, Try.func217, by kernel_rfl, rfl⟩
theorem cl218 : Calb Try.prog 218 := ⟨Try.f218, Try.func218, by kernel_rfl, rfl⟩
theorem cl219 : Calb Try.prog 219 := ⟨Try.f219, Try.func219, by kernel_rfl, rfl⟩
theorem cl22 : Calb Try.prog 22 := ⟨Try.f22, Try.func22, by kernel_rfl, rfl⟩
theorem cl220 : Calb Try.prog 220 := ⟨Try.f220, Try.func220, by kernel_rfl, rfl⟩
theorem cl221 : Calb Try.prog 221 := ⟨Try.f221, Try.func221, by kernel_rfl, rfl⟩
theorem cl222 : Calb Try.prog 222 := ⟨Try.f222, Try.func222, by kernel_rfl, rfl⟩
theorem cl223 : Calb Try.prog 223 := ⟨Try.f223, Try.func223, by kernel_rfl, rfl⟩
theorem cl224 : Calb Try.prog 224 := ⟨Try.f224, Try.func224, by kernel_rfl, rfl⟩
theorem cl225 : Calb Try.prog 225 := ⟨Try.f225, Try.func225, by kernel_rfl, rfl⟩
theorem cl226 : Calb Try.prog 226 := ⟨Try.f226, Try.func226, by kernel_rfl, rfl⟩
theorem cl227 : Calb Try.prog 227 := ⟨Try.f227, Try.func227, by kernel_rfl, rfl⟩
theorem cl228 : Calb Try.prog 228 := ⟨Try.f228, Try.func228, by kernel_rfl, rfl⟩
theorem cl229 : Calb Try.prog 229 := ⟨Try.f229, Try.func229, by kernel_rfl, rfl⟩
theorem cl23 : Calb Try.prog 23 := ⟨Try.f23, Try.func23, by kernel_rfl, rfl⟩
theorem cl230 : Calb Try.prog 230 := ⟨Try.f230, Try.func230, by kernel_rfl, rfl⟩
theorem cl231 : Calb Try.prog 231 := ⟨Try.f231, Try.func231, by kernel_rfl, rfl⟩
theorem cl232 : Calb Try.prog 232 := ⟨Try.f232, Try.func232, by kernel_rfl, rfl⟩
theorem cl233 : Calb Try.prog 233 := ⟨Try.f233, Try.func233, by kernel_rfl, rfl⟩
theorem cl234 : Calb Try.prog 234 := ⟨Try.f234, Try.func234, by kernel_rfl, rfl⟩
theorem cl235 : Calb Try.prog 235 := ⟨Try.f235, Try.func235, by kernel_rfl, rfl⟩
theorem cl236 : Calb Try.prog 236 := ⟨Try.f236, Try.func236, by kernel_rfl, rfl⟩
theorem cl237 : Calb Try.prog 237 := ⟨Try.f237, Try.func237, by kernel_rfl, rfl⟩
theorem cl24 : Calb Try.prog 24 := ⟨Try.f24, Try.func24, by kernel_rfl, rfl⟩
theorem cl241 : Calb Try.prog 241 := ⟨Try.f241, Try.func241, by kernel_rfl, rfl⟩
theorem cl242 : Calb Try.prog 242 := ⟨Try.f242, Try.func242, by kernel_rfl, rfl⟩
theorem cl243 : Calb Try.prog 243 := ⟨Try.f243, Try.func243, by kernel_rfl, rfl⟩
theorem cl244 : Calb Try.prog 244 := ⟨Try.f244, Try.func244, by kernel_rfl, rfl⟩
theorem cl245 : Calb Try.prog 245 := ⟨Try.f245, Try.func245, by kernel_rfl, rfl⟩
theorem cl246 : Calb Try.prog 246 := ⟨Try.f246, Try.func246, by kernel_rfl, rfl⟩
theorem cl247 : Calb Try.prog 247 := ⟨Try.f247, Try.func247, by kernel_rfl, rfl⟩
theorem cl248 : Calb Try.prog 248 := ⟨Try.f248, Try.func248, by kernel_rfl, rfl⟩
theorem cl249 : Calb Try.prog 249 := ⟨Try.f249, Try.func249, by kernel_rfl, rfl⟩
theorem cl25 : Calb Try.prog 25 := ⟨Try.f25, Try.func25, by kernel_rfl, rfl⟩
theorem cl250 : Calb Try.prog 250 := ⟨Try.f250, Try.func250, by kernel_rfl, rfl⟩
theorem cl251 : Calb Try.prog 251 := ⟨Try.f251, Try.func251, by kernel_rfl, rfl⟩
theorem cl252 : Calb Try.prog 252 := ⟨Try.f252, Try.func252, by kernel_rfl, rfl⟩
theorem cl253 : Calb Try.prog 253 := ⟨Try.f253, Try.func253, by kernel_rfl, rfl⟩
theorem cl254 : Calb Try.prog 254 := ⟨Try.f254, Try.func254, by kernel_rfl, rfl⟩
theorem cl255 : Calb Try.prog 255 := ⟨Try.f255, Try.func255, by kernel_rfl, rfl⟩
theorem cl256 : Calb Try.prog 256 := ⟨Try.f256, Try.func256, by kernel_rfl, rfl⟩
theorem cl257 : Calb Try.prog 257 := ⟨Try.f257, Try.func257, by kernel_rfl, rfl⟩
theorem cl258 : Calb Try.prog 258 := ⟨Try.f258, Try.func258, by kernel_rfl, rfl⟩
theorem cl259 : Calb Try.prog 259 := ⟨Try.f259, Try.func259, by kernel_rfl, rfl⟩
theorem cl26 : Calb Try.prog 26 := ⟨Try.f26, Try.func26, by kernel_rfl, rfl⟩
theorem cl260 : Calb Try.prog 260 := ⟨Try.f260, Try.func260, by kernel_rfl, rfl⟩
theorem cl27 : Calb Try.prog 27 := ⟨Try.f27, Try.func27, by kernel_rfl, rfl⟩
theorem cl28 : Calb Try.prog 28 := ⟨Try.f28, Try.func28, by kernel_rfl, rfl⟩
theorem cl29 : Calb Try.prog 29 := ⟨Try.f29, Try.func29, by kernel_rfl, rfl⟩
theorem cl3 : Calb Try.prog 3 := ⟨Try.f3, Try.func3, by kernel_rfl, rfl⟩
theorem cl30 : Calb Try.prog 30 := ⟨Try.f30, Try.func30, by kernel_rfl, rfl⟩
theorem cl31 : Calb Try.prog 31 := ⟨Try.f31, Try.func31, by kernel_rfl, rfl⟩
theorem cl32 : Calb Try.prog 32 := ⟨Try.f32, Try.func32, by kernel_rfl, rfl⟩
theorem cl33 : Calb Try.prog 33 := ⟨Try.f33, Try.func33, by kernel_rfl, rfl⟩
theorem cl34 : Calb Try.prog 34 := ⟨Try.f34, Try.func34, by kernel_rfl, rfl⟩
theorem cl35 : Calb Try.prog 35 := ⟨Try.f35, Try.func35, by kernel_rfl, rfl⟩
theorem cl36 : Calb Try.prog 36 := ⟨Try.f36, Try.func36, by kernel_rfl, rfl⟩
theorem cl37 : Calb Try.prog 37 := ⟨Try.f37, Try.func37, by kernel_rfl, rfl⟩
theorem cl38 : Calb Try.prog 38 := ⟨Try.f38, Try.func38, by kernel_rfl, rfl⟩
theorem cl39 : Calb Try.prog 39 := ⟨Try.f39, Try.func39, by kernel_rfl, rfl⟩
theorem cl4 : Calb Try.prog 4 := ⟨Try.f4, Try.func4, by kernel_rfl, rfl⟩
theorem cl40 : Calb Try.prog 40 := ⟨Try.f40, Try.func40, by kernel_rfl, rfl⟩
theorem cl41 : Calb Try.prog 41 := ⟨Try.f41, Try.func41, by kernel_rfl, rfl⟩
theorem cl42 : Calb Try.prog 42 := ⟨Try.f42, Try.func42, by kernel_rfl, rfl⟩
theorem cl43 : Calb Try.prog 43 := ⟨Try.f43, Try.func43, by kernel_rfl, rfl⟩
theorem cl44 : Calb Try.prog 44 := ⟨Try.f44, Try.func44, by kernel_rfl, rfl⟩
theorem cl45 : Calb Try.prog 45 := ⟨Try.f45, Try.func45, by kernel_rfl, rfl⟩
theorem cl46 : Calb Try.prog 46 := ⟨Try.f46, Try.func46, by kernel_rfl, rfl⟩
theorem cl47 : Calb Try.prog 47 := ⟨Try.f47, Try.func47, by kernel_rfl, rfl⟩
theorem cl48 : Calb Try.prog 48 := ⟨Try.f48, Try.func48, by kernel_rfl, rfl⟩
theorem cl49 : Calb Try.prog 49 := ⟨Try.f49, Try.func49, by kernel_rfl, rfl⟩
theorem cl5 : Calb Try.prog 5 := ⟨Try.f5, Try.func5, by kernel_rfl, rfl⟩
theorem cl50 : Calb Try.prog 50 := ⟨Try.f50, Try.func50, by kernel_rfl, rfl⟩
theorem cl51 : Calb Try.prog 51 := ⟨Try.f51, Try.func51, by kernel_rfl, rfl⟩
theorem cl52 : Calb Try.prog 52 := ⟨Try.f52, Try.func52, by kernel_rfl, rfl⟩
theorem cl53 : Calb Try.prog 53 := ⟨Try.f53, Try.func53, by kernel_rfl, rfl⟩
theorem cl54 : Calb Try.prog 54 := ⟨Try.f54, Try.func54, by kernel_rfl, rfl⟩
theorem cl55 : Calb Try.prog 55 := ⟨Try.f55, Try.func55, by kernel_rfl, rfl⟩
theorem cl56 : Calb Try.prog 56 := ⟨Try.f56, Try.func56, by kernel_rfl, rfl⟩
theorem cl57 : Calb Try.prog 57 := ⟨Try.f57, Try.func57, by kernel_rfl, rfl⟩
theorem cl58 : Calb Try.prog 58 := ⟨Try.f58, Try.func58, by kernel_rfl, rfl⟩
theorem cl59 : Calb Try.prog 59 := ⟨Try.f59, Try.func59, by kernel_rfl, rfl⟩
theorem cl6 : Calb Try.prog 6 := ⟨Try.f6, Try.func6, by kernel_rfl, rfl⟩
theorem cl60 : Calb Try.prog 60 := ⟨Try.f60, Try.func60, by kernel_rfl, rfl⟩
theorem cl61 : Calb Try.prog 61 := ⟨Try.f61, Try.func61, by kernel_rfl, rfl⟩
theorem cl62 : Calb Try.prog 62 := ⟨Try.f62, Try.func62, by kernel_rfl, rfl⟩
theorem cl63 : Calb Try.prog 63 := ⟨Try.f63, Try.func63, by kernel_rfl, rfl⟩
theorem cl64 : Calb Try.prog 64 := ⟨Try.f64, Try.func64, by kernel_rfl, rfl⟩
theorem cl65 : Calb Try.prog 65 := ⟨Try.f65, Try.func65, by kernel_rfl, rfl⟩
theorem cl66 : Calb Try.prog 66 := ⟨Try.f66, Try.func66, by kernel_rfl, rfl⟩
theorem cl67 : Calb Try.prog 67 := ⟨Try.f67, Try.func67, by kernel_rfl, rfl⟩
theorem cl68 : Calb Try.prog 68 := ⟨Try.f68, Try.func68, by kernel_rfl, rfl⟩
theorem cl69 : Calb Try.prog 69 := ⟨Try.f69, Try.func69, by kernel_rfl, rfl⟩
theorem cl7 : Calb Try.prog 7 := ⟨Try.f7, Try.func7, by kernel_rfl, rfl⟩
theorem cl70 : Calb Try.prog 70 := ⟨Try.f70, Try.func70, by kernel_rfl, rfl⟩
theorem cl71 : Calb Try.prog 71 := ⟨Try.f71, Try.func71, by kernel_rfl, rfl⟩
theorem cl72 : Calb Try.prog 72 := ⟨Try.f72, Try.func72, by kernel_rfl, rfl⟩
theorem cl73 : Calb Try.prog 73 := ⟨Try.f73, Try.func73, by kernel_rfl, rfl⟩
theorem cl74 : Calb Try.prog 74 := ⟨Try.f74, Try.func74, by kernel_rfl, rfl⟩
theorem cl75 : Calb Try.prog 75 := ⟨Try.f75, Try.func75, by kernel_rfl, rfl⟩
theorem cl76 : Calb Try.prog 76 := ⟨Try.f76, Try.func76, by kernel_rfl, rfl⟩
theorem cl77 : Calb Try.prog 77 := ⟨Try.f77, Try.func77, by kernel_rfl, rfl⟩
theorem cl78 : Calb Try.prog 78 := ⟨Try.f78, Try.func78, by kernel_rfl, rfl⟩
theorem cl79 : Calb Try.prog 79 := ⟨Try.f79, Try.func79, by kernel_rfl, rfl⟩
theorem cl8 : Calb Try.prog 8 := ⟨Try.f8, Try.func8, by kernel_rfl, rfl⟩
theorem cl80 : Calb Try.prog 80 := ⟨Try.f80, Try.func80, by kernel_rfl, rfl⟩
theorem cl81 : Calb Try.prog 81 := ⟨Try.f81, Try.func81, by kernel_rfl, rfl⟩
theorem cl82 : Calb Try.prog 82 := ⟨Try.f82, Try.func82, by kernel_rfl, rfl⟩
theorem cl83 : Calb Try.prog 83 := ⟨Try.f83, Try.func83, by kernel_rfl, rfl⟩
theorem cl84 : Calb Try.prog 84 := ⟨Try.f84, Try.func84, by kernel_rfl, rfl⟩
theorem cl85 : Calb Try.prog 85 := ⟨Try.f85, Try.func85, by kernel_rfl, rfl⟩
theorem cl86 : Calb Try.prog 86 := ⟨Try.f86, Try.func86, by kernel_rfl, rfl⟩
theorem cl87 : Calb Try.prog 87 := ⟨Try.f87, Try.func87, by kernel_rfl, rfl⟩
theorem cl88 : Calb Try.prog 88 := ⟨Try.f88, Try.func88, by kernel_rfl, rfl⟩
theorem cl89 : Calb Try.prog 89 := ⟨Try.f89, Try.func89, by kernel_rfl, rfl⟩
theorem cl9 : Calb Try.prog 9 := ⟨Try.f9, Try.func9, by kernel_rfl, rfl⟩
theorem cl90 : Calb Try.prog 90 := ⟨Try.f90, Try.func90, by kernel_rfl, rfl⟩
theorem cl91 : Calb Try.prog 91 := ⟨Try.f91, Try.func91, by kernel_rfl, rfl⟩
theorem cl92 : Calb Try.prog 92 := ⟨Try.f92, Try.func92, by kernel_rfl, rfl⟩
theorem cl93 : Calb Try.prog 93 := ⟨Try.f93, Try.func93, by kernel_rfl, rfl⟩
theorem cl94 : Calb Try.prog 94 := ⟨Try.f94, Try.func94, by kernel_rfl, rfl⟩
theorem cl95 : Calb Try.prog 95 := ⟨Try.f95, Try.func95, by kernel_rfl, rfl⟩
theorem cl96 : Calb Try.prog 96 := ⟨Try.f96, Try.func96, by kernel_rfl, rfl⟩
theorem cl97 : Calb Try.prog 97 := ⟨Try.f97, Try.func97, by kernel_rfl, rfl⟩
theorem cl98 : Calb Try.prog 98 := ⟨Try.f98, Try.func98, by kernel_rfl, rfl⟩
theorem cl99 : Calb Try.prog 99 := ⟨Try.f99, Try.func99, by kernel_rfl, rfl⟩
theorem eS104 : (elOf Try.prog 104).isSome = true := by kernel_rfl
theorem eS121 : (elOf Try.prog 121).isSome = true := by kernel_rfl
theorem eS124 : (elOf Try.prog 124).isSome = true := by kernel_rfl
theorem eS127 : (elOf Try.prog 127).isSome = true := by kernel_rfl
theorem eS150 : (elOf Try.prog 150).isSome = true := by kernel_rfl
theorem eS172 : (elOf Try.prog 172).isSome = true := by kernel_rfl
theorem eS190 : (elOf Try.prog 190).isSome = true := by kernel_rfl
theorem eS199 : (elOf Try.prog 199).isSome = true := by kernel_rfl
theorem eS22 : (elOf Try.prog 22).isSome = true := by kernel_rfl
theorem eS251 : (elOf Try.prog 251).isSome = true := by kernel_rfl
theorem eS27 : (elOf Try.prog 27).isSome = true := by kernel_rfl
theorem eS32 : (elOf Try.prog 32).isSome = true := by kernel_rfl
theorem eS36 : (elOf Try.prog 36).isSome = true := by kernel_rfl
theorem eS48 : (elOf Try.prog 48).isSome = true := by kernel_rfl
theorem eS49 : (elOf Try.prog 49).isSome = true := by kernel_rfl
theorem eS52 : (elOf Try.prog 52).isSome = true := by kernel_rfl
theorem eS53 : (elOf Try.prog 53).isSome = true := by kernel_rfl
theorem eS61 : (elOf Try.prog 61).isSome = true := by kernel_rfl
theorem eS75 : (elOf Try.prog 75).isSome = true := by kernel_rfl
theorem eS77 : (elOf Try.prog 77).isSome = true := by kernel_rfl
theorem eS85 : (elOf Try.prog 85).isSome = true := by kernel_rfl
theorem eS97 : (elOf Try.prog 97).isSome = true := by kernel_rfl
theorem el104 : elOf Try.prog 104 = some (199, 1) := by kernel_rfl
theorem el121 : elOf Try.prog 121 = some (49, 1) := by kernel_rfl
theorem el124 : elOf Try.prog 124 = some (127, 1) := by kernel_rfl
theorem el127 : elOf Try.prog 127 = some (203, 3) := by kernel_rfl
theorem el150 : elOf Try.prog 150 = some (154, 4) := by kernel_rfl
theorem el172 : elOf Try.prog 172 = some (254, 2) := by kernel_rfl
theorem el190 : elOf Try.prog 190 = some (238, 2) := by kernel_rfl
theorem el199 : elOf Try.prog 199 = some (248, 2) := by kernel_rfl
theorem el206 : elOf Try.prog 206 = some (207, 1) := by kernel_rfl
theorem el207 : elOf Try.prog 207 = some (4, 1) := by kernel_rfl
theorem el22 : elOf Try.prog 22 = some (5, 1) := by kernel_rfl
theorem el251 : elOf Try.prog 251 = some (61, 1) := by kernel_rfl
theorem el27 : elOf Try.prog 27 = some (9, 1) := by kernel_rfl
theorem el32 : elOf Try.prog 32 = some (135, 2) := by kernel_rfl
theorem el36 : elOf Try.prog 36 = some (41, 8) := by kernel_rfl
theorem el48 : elOf Try.prog 48 = some (60, 2) := by kernel_rfl
theorem el49 : elOf Try.prog 49 = some (3, 1) := by kernel_rfl
theorem el52 : elOf Try.prog 52 = some (156, 4) := by kernel_rfl
theorem el53 : elOf Try.prog 53 = some (152, 3) := by kernel_rfl
theorem el61 : elOf Try.prog 61 = some (71, 2) := by kernel_rfl
theorem el75 : elOf Try.prog 75 = some (174, 3) := by kernel_rfl
theorem el77 : elOf Try.prog 77 = some (53, 1) := by kernel_rfl
theorem el85 : elOf Try.prog 85 = some (182, 2) := by kernel_rfl
theorem el97 : elOf Try.prog 97 = some (108, 3) := by kernel_rfl
theorem fd106_0 : fdOf Try.prog 106 0 = some (0, 2, true) := by kernel_rfl
theorem fd106_1 : fdOf Try.prog 106 1 = some (2, 1, false) := by kernel_rfl
theorem fd108_0 : fdOf Try.prog 108 0 = some (0, 1, false) := by kernel_rfl
theorem fd108_1 : fdOf Try.prog 108 1 = some (1, 1, false) := by kernel_rfl
theorem fd108_2 : fdOf Try.prog 108 2 = some (2, 1, false) := by kernel_rfl
theorem fd115_0 : fdOf Try.prog 115 0 = some (0, 1, false) := by kernel_rfl
theorem fd115_1 : fdOf Try.prog 115 1 = some (1, 1, false) := by kernel_rfl
theorem fd115_2 : fdOf Try.prog 115 2 = some (2, 1, false) := by kernel_rfl
theorem fd135_0 : fdOf Try.prog 135 0 = some (0, 1, false) := by kernel_rfl
theorem fd135_1 : fdOf Try.prog 135 1 = some (1, 1, false) := by kernel_rfl
theorem fd152_0 : fdOf Try.prog 152 0 = some (0, 1, false) := by kernel_rfl
theorem fd152_1 : fdOf Try.prog 152 1 = some (1, 1, false) := by kernel_rfl
theorem fd152_2 : fdOf Try.prog 152 2 = some (2, 1, false) := by kernel_rfl
theorem fd154_0 : fdOf Try.prog 154 0 = some (0, 3, true) := by kernel_rfl
theorem fd154_1 : fdOf Try.prog 154 1 = some (3, 1, false) := by kernel_rfl
theorem fd156_0 : fdOf Try.prog 156 0 = some (0, 1, false) := by kernel_rfl
theorem fd156_1 : fdOf Try.prog 156 1 = some (1, 1, false) := by kernel_rfl
theorem fd156_2 : fdOf Try.prog 156 2 = some (2, 1, false) := by kernel_rfl
theorem fd156_3 : fdOf Try.prog 156 3 = some (3, 1, false) := by kernel_rfl
theorem fd161_0 : fdOf Try.prog 161 0 = some (0, 5, true) := by kernel_rfl
theorem fd161_1 : fdOf Try.prog 161 1 = some (5, 1, false) := by kernel_rfl
theorem fd161_10 : fdOf Try.prog 161 10 = some (14, 4, true) := by kernel_rfl
theorem fd161_2 : fdOf Try.prog 161 2 = some (6, 1, false) := by kernel_rfl
theorem fd161_3 : fdOf Try.prog 161 3 = some (7, 1, false) := by kernel_rfl
theorem fd161_4 : fdOf Try.prog 161 4 = some (8, 1, false) := by kernel_rfl
theorem fd161_5 : fdOf Try.prog 161 5 = some (9, 1, false) := by kernel_rfl
theorem fd161_6 : fdOf Try.prog 161 6 = some (10, 1, false) := by kernel_rfl
theorem fd161_7 : fdOf Try.prog 161 7 = some (11, 1, false) := by kernel_rfl
theorem fd161_8 : fdOf Try.prog 161 8 = some (12, 1, false) := by kernel_rfl
theorem fd161_9 : fdOf Try.prog 161 9 = some (13, 1, false) := by kernel_rfl
theorem fd174_0 : fdOf Try.prog 174 0 = some (0, 1, false) := by kernel_rfl
theorem fd174_1 : fdOf Try.prog 174 1 = some (1, 1, false) := by kernel_rfl
theorem fd174_2 : fdOf Try.prog 174 2 = some (2, 1, false) := by kernel_rfl
theorem fd182_0 : fdOf Try.prog 182 0 = some (0, 1, false) := by kernel_rfl
theorem fd182_1 : fdOf Try.prog 182 1 = some (1, 1, false) := by kernel_rfl
theorem fd203_0 : fdOf Try.prog 203 0 = some (0, 1, false) := by kernel_rfl
theorem fd203_1 : fdOf Try.prog 203 1 = some (1, 1, false) := by kernel_rfl
theorem fd203_2 : fdOf Try.prog 203 2 = some (2, 1, false) := by kernel_rfl
theorem fd223_1 : fdOf Try.prog 223 1 = some (1, 1, false) := by kernel_rfl
theorem fd238_0 : fdOf Try.prog 238 0 = some (0, 1, false) := by kernel_rfl
theorem fd238_1 : fdOf Try.prog 238 1 = some (1, 1, false) := by kernel_rfl
theorem fd248_0 : fdOf Try.prog 248 0 = some (0, 1, false) := by kernel_rfl
theorem fd248_1 : fdOf Try.prog 248 1 = some (1, 1, false) := by kernel_rfl
theorem fd254_0 : fdOf Try.prog 254 0 = some (0, 1, false) := by kernel_rfl
theorem fd254_1 : fdOf Try.prog 254 1 = some (1, 1, false) := by kernel_rfl
theorem fd41_0 : fdOf Try.prog 41 0 = some (0, 1, false) := by kernel_rfl
theorem fd41_1 : fdOf Try.prog 41 1 = some (1, 1, false) := by kernel_rfl
theorem fd41_2 : fdOf Try.prog 41 2 = some (2, 1, false) := by kernel_rfl
theorem fd41_3 : fdOf Try.prog 41 3 = some (3, 1, false) := by kernel_rfl
theorem fd41_4 : fdOf Try.prog 41 4 = some (4, 1, false) := by kernel_rfl
theorem fd41_5 : fdOf Try.prog 41 5 = some (5, 1, false) := by kernel_rfl
theorem fd41_6 : fdOf Try.prog 41 6 = some (6, 1, false) := by kernel_rfl
theorem fd41_7 : fdOf Try.prog 41 7 = some (7, 1, false) := by kernel_rfl
theorem fd47_0 : fdOf Try.prog 47 0 = some (0, 1, false) := by kernel_rfl
theorem fd47_1 : fdOf Try.prog 47 1 = some (1, 1, false) := by kernel_rfl
theorem fd47_2 : fdOf Try.prog 47 2 = some (2, 1, false) := by kernel_rfl
theorem fd47_3 : fdOf Try.prog 47 3 = some (3, 1, false) := by kernel_rfl
theorem fd47_4 : fdOf Try.prog 47 4 = some (4, 1, false) := by kernel_rfl
theorem fd55_0 : fdOf Try.prog 55 0 = some (0, 1, false) := by kernel_rfl
theorem fd55_1 : fdOf Try.prog 55 1 = some (1, 1, false) := by kernel_rfl
theorem fd55_2 : fdOf Try.prog 55 2 = some (2, 1, false) := by kernel_rfl
theorem fd55_3 : fdOf Try.prog 55 3 = some (3, 1, false) := by kernel_rfl
theorem fd60_0 : fdOf Try.prog 60 0 = some (0, 1, false) := by kernel_rfl
theorem fd60_1 : fdOf Try.prog 60 1 = some (1, 1, false) := by kernel_rfl
theorem fd71_0 : fdOf Try.prog 71 0 = some (0, 1, false) := by kernel_rfl
theorem fd71_1 : fdOf Try.prog 71 1 = some (1, 1, false) := by kernel_rfl
theorem fd84_0 : fdOf Try.prog 84 0 = some (0, 1, false) := by kernel_rfl
theorem fd84_1 : fdOf Try.prog 84 1 = some (1, 1, false) := by kernel_rfl
theorem fd84_2 : fdOf Try.prog 84 2 = some (2, 1, false) := by kernel_rfl
theorem fd84_3 : fdOf Try.prog 84 3 = some (3, 1, false) := by kernel_rfl
theorem fd84_4 : fdOf Try.prog 84 4 = some (4, 1, false) := by kernel_rfl
theorem fd99_0 : fdOf Try.prog 99 0 = some (0, 1, false) := by kernel_rfl
theorem fd99_1 : fdOf Try.prog 99 1 = some (1, 1, false) := by kernel_rfl
theorem ik113 : inkOf Try.prog 113 = some .u64 := by kernel_rfl
theorem ik228 : inkOf Try.prog 228 = some .u64 := by kernel_rfl
theorem ik275 : inkOf Try.prog 275 = some .u32 := by kernel_rfl
theorem ik277 : inkOf Try.prog 277 = some .u64 := by kernel_rfl
theorem ik3 : inkOf Try.prog 3 = some .i64 := by kernel_rfl
theorem ik5 : inkOf Try.prog 5 = some .u8 := by kernel_rfl
theorem mp234 : mpOf Try.prog 234 = some (3, 4, .i64) := by kernel_rfl
theorem st9 : strOf Try.prog 9 = true := by kernel_rfl
theorem sz104 : szOf Try.prog 104 = some 1 := by kernel_rfl
theorem sz106 : szOf Try.prog 106 = some 3 := by kernel_rfl
theorem sz108 : szOf Try.prog 108 = some 3 := by kernel_rfl
theorem sz124 : szOf Try.prog 124 = some 1 := by kernel_rfl
theorem sz135 : szOf Try.prog 135 = some 2 := by kernel_rfl
theorem sz152 : szOf Try.prog 152 = some 3 := by kernel_rfl
theorem sz154 : szOf Try.prog 154 = some 4 := by kernel_rfl
theorem sz156 : szOf Try.prog 156 = some 4 := by kernel_rfl
theorem sz174 : szOf Try.prog 174 = some 3 := by kernel_rfl
theorem sz182 : szOf Try.prog 182 = some 2 := by kernel_rfl
theorem sz199 : szOf Try.prog 199 = some 1 := by kernel_rfl
theorem sz203 : szOf Try.prog 203 = some 3 := by kernel_rfl
theorem sz207 : szOf Try.prog 207 = some 1 := by kernel_rfl
theorem sz238 : szOf Try.prog 238 = some 2 := by kernel_rfl
theorem sz248 : szOf Try.prog 248 = some 2 := by kernel_rfl
theorem sz254 : szOf Try.prog 254 = some 2 := by kernel_rfl
theorem sz277 : szOf Try.prog 277 = some 1 := by kernel_rfl
theorem sz3 : szOf Try.prog 3 = some 1 := by kernel_rfl
theorem sz32 : szOf Try.prog 32 = some 1 := by kernel_rfl
theorem sz4 : szOf Try.prog 4 = some 1 := by kernel_rfl
theorem sz41 : szOf Try.prog 41 = some 8 := by kernel_rfl
theorem sz47 : szOf Try.prog 47 = some 5 := by kernel_rfl
theorem sz49 : szOf Try.prog 49 = some 1 := by kernel_rfl
theorem sz52 : szOf Try.prog 52 = some 1 := by kernel_rfl
theorem sz53 : szOf Try.prog 53 = some 1 := by kernel_rfl
theorem sz55 : szOf Try.prog 55 = some 4 := by kernel_rfl
theorem sz60 : szOf Try.prog 60 = some 2 := by kernel_rfl
theorem sz61 : szOf Try.prog 61 = some 1 := by kernel_rfl
theorem sz71 : szOf Try.prog 71 = some 2 := by kernel_rfl
theorem sz84 : szOf Try.prog 84 = some 5 := by kernel_rfl
theorem sz9 : szOf Try.prog 9 = some 1 := by kernel_rfl
theorem sz97 : szOf Try.prog 97 = some 1 := by kernel_rfl
theorem sz99 : szOf Try.prog 99 = some 2 := by kernel_rfl
theorem ze106 : zeroOf Try.prog 106 = some (.agg #[.int .i64 0, .slice none 0 0, .slice none 0 0]) := by kernel_rfl
theorem ze108 : zeroOf Try.prog 108 = some (.agg #[.string ⟨#[]⟩, .int .i64 0, .slice none 0 0]) := by kernel_rfl
theorem ze124 : zeroOf Try.prog 124 = some (.slice none 0 0) := by kernel_rfl
theorem ze127 : zeroOf Try.prog 127 = some (.slice none 0 0) := by kernel_rfl
theorem ze135 : zeroOf Try.prog 135 = some (.agg #[.int .i64 0, .int .i64 0]) := by kernel_rfl
theorem ze152 : zeroOf Try.prog 152 = some (.agg #[.slice none 0 0, .int .i64 0, .int .i64 0]) := by kernel_rfl
theorem ze154 : zeroOf Try.prog 154 = some (.agg #[.slice none 0 0, .int .i64 0, .int .i64 0, .int .i64 0]) := by kernel_rfl
theorem ze156 : zeroOf Try.prog 156 = some (.agg #[.int .i64 0, .int .i64 0, .int .i64 0, .int .i64 0]) := by kernel_rfl
theorem ze199 : zeroOf Try.prog 199 = some (.slice none 0 0) := by kernel_rfl
theorem ze203 : zeroOf Try.prog 203 = some (.agg #[.int .u8 0, .bool false, .bool false]) := by kernel_rfl
theorem ze207 : zeroOf Try.prog 207 = some (.slice none 0 0) := by kernel_rfl
theorem ze223 : zeroOf Try.prog 223 = some (.agg #[.pointer none, .slice none 0 0]) := by kernel_rfl
theorem ze238 : zeroOf Try.prog 238 = some (.agg #[.int .i64 0, .int .i64 0]) := by kernel_rfl
theorem ze248 : zeroOf Try.prog 248 = some (.agg #[.slice none 0 0, .slice none 0 0]) := by kernel_rfl
theorem ze277 : zeroOf Try.prog 277 = some (.int .u64 0) := by kernel_rfl
theorem ze3 : zeroOf Try.prog 3 = some (.int .i64 0) := by kernel_rfl
theorem ze4 : zeroOf Try.prog 4 = some (.bool false) := by kernel_rfl
theorem ze41 : zeroOf Try.prog 41 = some (.agg #[.int .i64 0, .int .i64 0, .int .i64 0, .int .i64 0, .int .i64 0, .int .i64 0, .int .i64 0, .int .i64 0]) := by kernel_rfl
theorem ze47 : zeroOf Try.prog 47 = some (.agg #[.int .i64 0, .int .i64 0, .int .i64 0, .int .i64 0, .int .i64 0]) := by kernel_rfl
theorem ze49 : zeroOf Try.prog 49 = some (.slice none 0 0) := by kernel_rfl
theorem ze5 : zeroOf Try.prog 5 = some (.int .u8 0) := by kernel_rfl
theorem ze53 : zeroOf Try.prog 53 = some (.slice none 0 0) := by kernel_rfl
theorem ze55 : zeroOf Try.prog 55 = some (.agg #[.slice none 0 0, .slice none 0 0, .int .i64 0, .int .i64 0]) := by kernel_rfl
theorem ze60 : zeroOf Try.prog 60 = some (.agg #[.int .i64 0, .slice none 0 0]) := by kernel_rfl
theorem ze61 : zeroOf Try.prog 61 = some (.slice none 0 0) := by kernel_rfl
theorem ze71 : zeroOf Try.prog 71 = some (.agg #[.string ⟨#[]⟩, .string ⟨#[]⟩]) := by kernel_rfl
theorem ze9 : zeroOf Try.prog 9 = some (.string ⟨#[]⟩) := by kernel_rfl
theorem ze99 : zeroOf Try.prog 99 = some (.agg #[.int .i64 0, .slice none 0 0]) := by kernel_rfl
end Go.Ring
