/- The facts of types and functions, reckoned. No condition. -/
import Derived.Test.YtanilephcohjkaaGreatEg1
import Derived.Test.YtanilephcohjkaaGreatProg
import Derived.KernelRfl
namespace Go.Ring
open Go Go.RowKit Go.Eager Go.Abs Go.Proofs
set_option maxRecDepth 100000
set_option linter.unusedVariables false
set_option linter.unusedSimpArgs false
theorem aS142 : (aggOf Tryz.prog 142).isSome = true := by kernel_rfl
theorem aS172 : (aggOf Tryz.prog 172).isSome = true := by kernel_rfl
theorem aS3 : (aggOf Tryz.prog 3).isSome = true := by kernel_rfl
theorem aS5 : (aggOf Tryz.prog 5).isSome = true := by kernel_rfl
theorem ag108 : aggOf Tryz.prog 108 = some false := by kernel_rfl
theorem ag117 : aggOf Tryz.prog 117 = some false := by kernel_rfl
theorem ag122 : aggOf Tryz.prog 122 = some true := by kernel_rfl
theorem ag123 : aggOf Tryz.prog 123 = some false := by kernel_rfl
theorem ag125 : aggOf Tryz.prog 125 = some true := by kernel_rfl
theorem ag159 : aggOf Tryz.prog 159 = some false := by kernel_rfl
theorem ag183 : aggOf Tryz.prog 183 = some true := by kernel_rfl
theorem ag190 : aggOf Tryz.prog 190 = some true := by kernel_rfl
theorem ag205 : aggOf Tryz.prog 205 = some false := by kernel_rfl
theorem ag207 : aggOf Tryz.prog 207 = some true := by kernel_rfl
theorem ag213 : aggOf Tryz.prog 213 = some true := by kernel_rfl
theorem ag22 : aggOf Tryz.prog 22 = some false := by kernel_rfl
theorem ag24 : aggOf Tryz.prog 24 = some true := by kernel_rfl
theorem ag25 : aggOf Tryz.prog 25 = some false := by kernel_rfl
theorem ag261 : aggOf Tryz.prog 261 = some true := by kernel_rfl
theorem ag27 : aggOf Tryz.prog 27 = some true := by kernel_rfl
theorem ag29 : aggOf Tryz.prog 29 = some false := by kernel_rfl
theorem ag3 : aggOf Tryz.prog 3 = some false := by kernel_rfl
theorem ag31 : aggOf Tryz.prog 31 = some true := by kernel_rfl
theorem ag32 : aggOf Tryz.prog 32 = some false := by kernel_rfl
theorem ag34 : aggOf Tryz.prog 34 = some true := by kernel_rfl
theorem ag40 : aggOf Tryz.prog 40 = some false := by kernel_rfl
theorem ag42 : aggOf Tryz.prog 42 = some true := by kernel_rfl
theorem ag45 : aggOf Tryz.prog 45 = some true := by kernel_rfl
theorem ag5 : aggOf Tryz.prog 5 = some false := by kernel_rfl
theorem ag63 : aggOf Tryz.prog 63 = some false := by kernel_rfl
theorem ag78 : aggOf Tryz.prog 78 = some false := by kernel_rfl
theorem ag9 : aggOf Tryz.prog 9 = some false := by kernel_rfl
theorem by122 : bytOf Tryz.prog 122 = some 16 := by kernel_rfl
theorem by125 : bytOf Tryz.prog 125 = some 48 := by kernel_rfl
theorem by183 : bytOf Tryz.prog 183 = some 16 := by kernel_rfl
theorem by190 : bytOf Tryz.prog 190 = some 32 := by kernel_rfl
theorem by3 : bytOf Tryz.prog 3 = some 8 := by kernel_rfl
theorem by45 : bytOf Tryz.prog 45 = some 48 := by kernel_rfl
theorem by5 : bytOf Tryz.prog 5 = some 1 := by kernel_rfl
theorem by63 : bytOf Tryz.prog 63 = some 24 := by kernel_rfl
theorem by9 : bytOf Tryz.prog 9 = some 16 := by kernel_rfl
theorem cl102 : Calb Tryz.prog 102 := ⟨Tryz.f102, Tryz.func102, by kernel_rfl, rfl⟩
theorem cl104 : Calb Tryz.prog 104 := ⟨Tryz.f104, Tryz.func104, by kernel_rfl, rfl⟩
theorem cl105 : Calb Tryz.prog 105 := ⟨Tryz.f105, Tryz.func105, by kernel_rfl, rfl⟩
theorem cl106 : Calb Tryz.prog 106 := ⟨Tryz.f106, Tryz.func106, by kernel_rfl, rfl⟩
theorem cl107 : Calb Tryz.prog 107 := ⟨Tryz.f107, Tryz.func107, by kernel_rfl, rfl⟩
theorem cl11 : Calb Tryz.prog 11 := ⟨Tryz.f11, Tryz.func11, by kernel_rfl, rfl⟩
theorem cl117 : Calb Tryz.prog 117 := ⟨Tryz.f117, Tryz.func117, by kernel_rfl, rfl⟩
theorem cl118 : Calb Tryz.prog 118 := ⟨Tryz.f118, Tryz.func118, by kernel_rfl, rfl⟩
theorem cl122 : Calb Tryz.prog 122 := ⟨Tryz.f122, Tryz.func122, by kernel_rfl, rfl⟩
theorem cl123 : Calb Tryz.prog 123 := ⟨Tryz.f123, Tryz.func123, by kernel_rfl, rfl⟩
theorem cl124 : Calb Tryz.prog 124 := ⟨Tryz.f124, Tryz.func124, by kernel_rfl, rfl⟩
theorem cl125 : Calb Tryz.prog 125 := ⟨Tryz.f125, Tryz.func125, by kernel_rfl, rfl⟩
theorem cl126 : Calb Tryz.prog 126 := ⟨Tryz.f126, Tryz.func126, by kernel_rfl, rfl⟩
theorem cl127 : Calb Tryz.prog 127 := ⟨Tryz.f127, Tryz.func127, by kernel_rfl, rfl⟩
theorem cl128 : Calb Tryz.prog 128 := ⟨Tryz.f128, Tryz.func128, by kernel_rfl, rfl⟩
theorem cl129 : Calb Tryz.prog 129 := ⟨Tryz.f129, Tryz.func129, by kernel_rfl, rfl⟩
theorem cl13 : Calb Tryz.prog 13 := ⟨Tryz.f13, Tryz.func13, by kernel_rfl, rfl⟩
theorem cl130 : Calb Tryz.prog 130 := ⟨Tryz.f130, Tryz.func130, by kernel_rfl, rfl⟩
theorem cl131 : Calb Tryz.prog 131 := ⟨Tryz.f131, Tryz.func131, by kernel_rfl, rfl⟩
theorem cl132 : Calb Tryz.prog 132 := ⟨Tryz.f132, Tryz.func132, by kernel_rfl, rfl⟩
theorem cl133 : Calb Tryz.prog 133 := ⟨Tryz.f133, Tryz.func133, by kernel_rfl, rfl⟩
theorem cl134 : Calb Tryz.prog 134 := ⟨Tryz.f134, Tryz.func134, by kernel_rfl, rfl⟩
theorem cl135 : Calb Tryz.prog 135 := ⟨Tryz.f135, Tryz.func135, by kernel_rfl, rfl⟩
theorem cl136 : Calb Tryz.prog 136 := ⟨Tryz.f136, Tryz.func136, by kernel_rfl, rfl⟩
theorem cl137 : Calb Tryz.prog 137 := ⟨Tryz.f137, Tryz.func137, by kernel_rfl, rfl⟩
theorem cl138 : Calb Tryz.prog 138 := ⟨Tryz.f138, Tryz.func138, by kernel_rfl, rfl⟩
theorem cl139 : Calb Tryz.prog 139 := ⟨Tryz.f139, Tryz.func139, by kernel_rfl, rfl⟩
theorem cl14 : Calb Tryz.prog 14 := ⟨Tryz.f14, Tryz.func14, by kernel_rfl, rfl⟩
theorem cl140 : Calb Tryz.prog 140 := ⟨Tryz.f140, Tryz.func140, by kernel_rfl, rfl⟩
theorem cl141 : Calb Tryz.prog 141 := ⟨Tryz.f141, Tryz.func141, by kernel_rfl, rfl⟩
theorem cl142 : Calb Tryz.prog 142 := ⟨Tryz.f142, Tryz.func142, by kernel_rfl, rfl⟩
theorem cl147 : Calb Tryz.prog 147 := ⟨Tryz.f147, Tryz.func147, by kernel_rfl, rfl⟩
theorem cl148 : Calb Tryz.prog 148 := ⟨Tryz.f148, Tryz.func148, by kernel_rfl, rfl⟩
theorem cl149 : Calb Tryz.prog 149 := ⟨Tryz.f149, Tryz.func149, by kernel_rfl, rfl⟩
theorem cl15 : Calb Tryz.prog 15 := ⟨Tryz.f15, Tryz.func15, by kernel_rfl, rfl⟩
theorem cl150 : Calb Tryz.prog 150 := ⟨Tryz.f150, Tryz.func150, by kernel_rfl, rfl⟩
theorem cl151 : Calb Tryz.prog 151 := ⟨Tryz.f151, Tryz.func151, by kernel_rfl, rfl⟩
theorem cl152 : Calb Tryz.prog 152 := ⟨Tryz.f152, Tryz.func152, by kernel_rfl, rfl⟩
theorem cl153 : Calb Tryz.prog 153 := ⟨Tryz.f153, Tryz.func153, by kernel_rfl, rfl⟩
theorem cl154 : Calb Tryz.prog 154 := ⟨Tryz.f154, Tryz.func154, by kernel_rfl, rfl⟩
theorem cl155 : Calb Tryz.prog 155 := ⟨Tryz.f155, Tryz.func155, by kernel_rfl, rfl⟩
theorem cl157 : Calb Tryz.prog 157 := ⟨Tryz.f157, Tryz.func157, by kernel_rfl, rfl⟩
theorem cl158 : Calb Tryz.prog 158 := ⟨Tryz.f158, Tryz.func158, by kernel_rfl, rfl⟩
theorem cl159 : Calb Tryz.prog 159 := ⟨Tryz.f159, Tryz.func159, by kernel_rfl, rfl⟩
theorem cl16 : Calb Tryz.prog 16 := ⟨Tryz.f16, Tryz.func16, by kernel_rfl, rfl⟩
theorem cl160 : Calb Tryz.prog 160 := ⟨Tryz.f160, Tryz.func160, by kernel_rfl, rfl⟩
theorem cl161 : Calb Tryz.prog 161 := ⟨Tryz.f161, Tryz.func161, by kernel_rfl, rfl⟩
theorem cl162 : Calb Tryz.prog 162 := ⟨Tryz.f162, Tryz.func162, by kernel_rfl, rfl⟩
theorem cl163 : Calb Tryz.prog 163 := ⟨Tryz.f163, Tryz.func163, by kernel_rfl, rfl⟩
theorem cl164 : Calb Tryz.prog 164 := ⟨Tryz.f164, Tryz.func164, by kernel_rfl, rfl⟩
theorem cl165 : Calb Tryz.prog 165 := ⟨Tryz.f165, Tryz.func165, by kernel_rfl, rfl⟩
theorem cl166 : Calb Tryz.prog 166 := ⟨Tryz.f166, Tryz.func166, by kernel_rfl, rfl⟩
theorem cl167 : Calb Tryz.prog 167 := ⟨Tryz.f167, Tryz.func167, by kernel_rfl, rfl⟩
theorem cl168 : Calb Tryz.prog 168 := ⟨Tryz.f168, Tryz.func168, by kernel_rfl, rfl⟩
theorem cl169 : Calb Tryz.prog 169 := ⟨Tryz.f169, Tryz.func169, by kernel_rfl, rfl⟩
theorem cl17 : Calb Tryz.prog 17 := ⟨Tryz.f17, Tryz.func17, by kernel_rfl, rfl⟩
theorem cl170 : Calb Tryz.prog 170 := ⟨Tryz.f170, Tryz.func170, by kernel_rfl, rfl⟩
theorem cl171 : Calb Tryz.prog 171 := ⟨Tryz.f171, Tryz.func171, by kernel_rfl, rfl⟩
theorem cl172 : Calb Tryz.prog 172 := ⟨Tryz.f172, Tryz.func172, by kernel_rfl, rfl⟩
theorem cl175 : Calb Tryz.prog 175 := ⟨Tryz.f175, Tryz.func175, by kernel_rfl, rfl⟩
theorem cl176 : Calb Tryz.prog 176 := ⟨Tryz.f176, Tryz.func176, by kernel_rfl, rfl⟩
theorem cl18 : Calb Tryz.prog 18 := ⟨Tryz.f18, Tryz.func18, by kernel_rfl, rfl⟩
theorem cl182 : Calb Tryz.prog 182 := ⟨Tryz.f182, Tryz.func182, by kernel_rfl, rfl⟩
theorem cl19 : Calb Tryz.prog 19 := ⟨Tryz.f19, Tryz.func19, by kernel_rfl, rfl⟩
theorem cl192 : Calb Tryz.prog 192 := ⟨Tryz.f192, Tryz.func192, by kernel_rfl, rfl⟩
theorem cl193 : Calb Tryz.prog 193 := ⟨Tryz.f193, Tryz.func193, by kernel_rfl, rfl⟩
theorem cl194 : Calb Tryz.prog 194 := ⟨Tryz.f194, Tryz.func194, by kernel_rfl, rfl⟩
theorem cl195 : Calb Tryz.prog 195 := ⟨Tryz.f195, Tryz.func195, by kernel_rfl, rfl⟩
theorem cl196 : Calb Tryz.prog 196 := ⟨Tryz.f196, Tryz.func196, by kernel_rfl, rfl⟩
theorem cl197 : Calb Tryz.prog 197 := ⟨Tryz.f197, Tryz.func197, by kernel_rfl, rfl⟩
theorem cl198 : Calb Tryz.prog 198 := ⟨Tryz.f198, Tryz.func198, by kernel_rfl, rfl⟩
theorem cl199 : Calb Tryz.prog 199 := ⟨Tryz.f199, Tryz.func199, by kernel_rfl, rfl⟩
theorem cl20 : Calb Tryz.prog 20 := ⟨Tryz.f20, Tryz.func20, by kernel_rfl, rfl⟩
theorem cl202 : Calb Tryz.prog 202 := ⟨Tryz.f202, Tryz.func202, by kernel_rfl, rfl⟩
theorem cl203 : Calb Tryz.prog 203 := ⟨Tryz.f203, Tryz.func203, by kernel_rfl, rfl⟩
theorem cl204 : Calb Tryz.prog 204 := ⟨Tryz.f204, Tryz.func204, by kernel_rfl, rfl⟩
theorem cl205 : Calb Tryz.prog 205 := ⟨Tryz.f205, Tryz.func205, by kernel_rfl, rfl⟩
theorem cl206 : Calb Tryz.prog 206 := ⟨Tryz.f206, Tryz.func206, by kernel_rfl, rfl⟩
theorem cl207 : Calb Tryz.prog 207 := ⟨Tryz.f207, Tryz.func207, by kernel_rfl, rfl⟩
theorem cl21 : Calb Tryz.prog 21 := ⟨Tryz.f21, Tryz.func21, by kernel_rfl, rfl⟩
theorem cl210 : Calb Tryz.prog 210 := ⟨Tryz.f210, Tryz.func210, by kernel_rfl, rfl⟩
theorem cl211 : Calb Tryz.prog 211 := ⟨Tryz.f211, Tryz.func211, by kernel_rfl, rfl⟩
theorem cl212 : Calb Tryz.prog 212 := ⟨Tryz.f212, Tryz.func212, by kernel_rfl, rfl⟩
theorem cl213 : Calb Tryz.prog 213 := ⟨Tryz.f213, Tryz.func213, by kernel_rfl, rfl⟩
theorem cl214 : Calb Tryz.prog 214 := ⟨Tryz.f214, Tryz.func214, by kernel_rfl, rfl⟩
theorem cl215 : Calb Tryz.prog 215 := ⟨Tryz.f215, Tryz.func215, by kernel_rfl, rfl⟩
theorem cl216 : Calb Tryz.prog 216 := ⟨Tryz.f216, Tryz.func216, by kernel_rfl, rfl⟩
theorem cl217 : Calb Tryz.prog 217 := ⟨Tryz.f217, Tryz.func217, by kernel_rfl, rfl⟩
theorem cl220 : Calb Tryz.prog 220 := ⟨Tryz.f220, Tryz.func220, by kernel_rfl, rfl⟩
theorem cl221 : Calb Tryz.prog 221 := ⟨Tryz.f221, Tryz.func221, by kernel_rfl, rfl⟩
theorem cl222 : Calb Tryz.prog 222 := ⟨Tryz.f222, Tryz.func222, by kernel_rfl, rfl⟩
theorem cl223 : Calb Tryz.prog 223 := ⟨Tryz.f223, Tryz.func223, by kernel_rfl, rfl⟩
theorem cl227 : Calb Tryz.prog 227 := ⟨Tryz.f227, Tryz.func227, by kernel_rfl, rfl⟩
theorem cl232 : Calb Tryz.prog 232 := ⟨Tryz.f232, Tryz.func232, by kernel_rfl, rfl⟩
theorem cl237 : Calb Tryz.prog 237 := ⟨Tryz.f237, Tryz.func237, by kernel_rfl, rfl⟩
theorem cl238 : Calb Tryz.prog 238 := ⟨Tryz.f238, Tryz.func238, by kernel_rfl, rfl⟩
theorem cl239 : Calb Tryz.prog 239 := ⟨Tryz.f239, Tryz.func239, by kernel_rfl, rfl⟩
theorem cl240 : Calb Tryz.prog 240 := ⟨Tryz.f240, Tryz.func240, by kernel_rfl, rfl⟩
theorem cl243 : Calb Tryz.prog 243 := ⟨Tryz.f243, Tryz.func243, by kernel_rfl, rfl⟩
theorem cl254 : Calb Tryz.prog 254 := ⟨Tryz.f254, Tryz.func254, by kernel_rfl, rfl⟩
theorem cl255 : Calb Tryz.prog 255 := ⟨Tryz.f255, Tryz.func255, by kernel_rfl, rfl⟩
theorem cl256 : Calb Tryz.prog 256 := ⟨Tryz.f256, Tryz.func256, by kernel_rfl, rfl⟩
theorem cl257 : Calb Tryz.prog 257 := ⟨Tryz.f257, Tryz.func257, by kernel_rfl, rfl⟩
theorem cl26 : Calb Tryz.prog 26 := ⟨Tryz.f26, Tryz.func26, by kernel_rfl, rfl⟩
theorem cl262 : Calb Tryz.prog 262 := ⟨Tryz.f262, Tryz.func262, by kernel_rfl, rfl⟩
theorem cl263 : Calb Tryz.prog 263 := ⟨Tryz.f263, Tryz.func263, by kernel_rfl, rfl⟩
theorem cl264 : Calb Tryz.prog 264 := ⟨Tryz.f264, Tryz.func264, by kernel_rfl, rfl⟩
theorem cl29 : Calb Tryz.prog 29 := ⟨Tryz.f29, Tryz.func29, by kernel_rfl, rfl⟩
theorem cl30 : Calb Tryz.prog 30 := ⟨Tryz.f30, Tryz.func30, by kernel_rfl, rfl⟩
theorem cl35 : Calb Tryz.prog 35 := ⟨Tryz.f35, Tryz.func35, by kernel_rfl, rfl⟩
theorem cl38 : Calb Tryz.prog 38 := ⟨Tryz.f38, Tryz.func38, by kernel_rfl, rfl⟩
theorem cl39 : Calb Tryz.prog 39 := ⟨Tryz.f39, Tryz.func39, by kernel_rfl, rfl⟩
theorem cl43 : Calb Tryz.prog 43 := ⟨Tryz.f43, Tryz.func43, by kernel_rfl, rfl⟩
theorem cl50 : Calb Tryz.prog 50 := ⟨Tryz.f50, Tryz.func50, by kernel_rfl, rfl⟩
theorem cl51 : Calb Tryz.prog 51 := ⟨Tryz.f51, Tryz.func51, by kernel_rfl, rfl⟩
theorem cl52 : Calb Tryz.prog 52 := ⟨Tryz.f52, Tryz.func52, by kernel_rfl, rfl⟩
theorem cl53 : Calb Tryz.prog 53 := ⟨Tryz.f53, Tryz.func53, by kernel_rfl, rfl⟩
theorem cl54 : Calb Tryz.prog 54 := ⟨Tryz.f54, Tryz.func54, by kernel_rfl, rfl⟩
theorem cl55 : Calb Tryz.prog 55 := ⟨Tryz.f55, Tryz.func55, by kernel_rfl, rfl⟩
theorem cl56 : Calb Tryz.prog 56 := ⟨Tryz.f56, Tryz.func56, by kernel_rfl, rfl⟩
theorem cl57 : Calb Tryz.prog 57 := ⟨Tryz.f57, Tryz.func57, by kernel_rfl, rfl⟩
theorem cl58 : Calb Tryz.prog 58 := ⟨Tryz.f58, Tryz.func58, by kernel_rfl, rfl⟩
theorem cl59 : Calb Tryz.prog 59 := ⟨Tryz.f59, Tryz.func59, by kernel_rfl, rfl⟩
theorem cl60 : Calb Tryz.prog 60 := ⟨Tryz.f60, Tryz.func60, by kernel_rfl, rfl⟩
theorem cl61 : Calb Tryz.prog 61 := ⟨Tryz.f61, Tryz.func61, by kernel_rfl, rfl⟩
theorem cl62 : Calb Tryz.prog 62 := ⟨Tryz.f62, Tryz.func62, by kernel_rfl, rfl⟩
theorem cl63 : Calb Tryz.prog 63 := ⟨Tryz.f63, Tryz.func63, by kernel_rfl, rfl⟩
theorem cl64 : Calb Tryz.prog 64 := ⟨Tryz.f64, Tryz.func64, by kernel_rfl, rfl⟩
theorem cl65 : Calb Tryz.prog 65 := ⟨Tryz.f65, Tryz.func65, by kernel_rfl, rfl⟩
theorem cl66 : Calb Tryz.prog 66 := ⟨Tryz.f66, Tryz.func66, by kernel_rfl, rfl⟩
theorem cl67 : Calb Tryz.prog 67 := ⟨Tryz.f67, Tryz.func67, by kernel_rfl, rfl⟩
theorem cl68 : Calb Tryz.prog 68 := ⟨Tryz.f68, Tryz.func68, by kernel_rfl, rfl⟩
theorem cl69 : Calb Tryz.prog 69 := ⟨Tryz.f69, Tryz.func69, by kernel_rfl, rfl⟩
theorem cl70 : Calb Tryz.prog 70 := ⟨Tryz.f70, Tryz.func70, by kernel_rfl, rfl⟩
theorem cl71 : Calb Tryz.prog 71 := ⟨Tryz.f71, Tryz.func71, by kernel_rfl, rfl⟩
theorem cl72 : Calb Tryz.prog 72 := ⟨Tryz.f72, Tryz.func72, by kernel_rfl, rfl⟩
theorem cl73 : Calb Tryz.prog 73 := ⟨Tryz.f73, Tryz.func73, by kernel_rfl, rfl⟩
theorem cl74 : Calb Tryz.prog 74 := ⟨Tryz.f74, Tryz.func74, by kernel_rfl, rfl⟩
theorem cl75 : Calb Tryz.prog 75 := ⟨Tryz.f75, Tryz.func75, by kernel_rfl, rfl⟩
theorem cl77 : Calb Tryz.prog 77 := ⟨Tryz.f77, Tryz.func77, by kernel_rfl, rfl⟩
theorem cl78 : Calb Tryz.prog 78 := ⟨Tryz.f78, Tryz.func78, by kernel_rfl, rfl⟩
theorem cl79 : Calb Tryz.prog 79 := ⟨Tryz.f79, Tryz.func79, by kernel_rfl, rfl⟩
theorem cl80 : Calb Tryz.prog 80 := ⟨Tryz.f80, Tryz.func80, by kernel_rfl, rfl⟩
theorem cl83 : Calb Tryz.prog 83 := ⟨Tryz.f83, Tryz.func83, by kernel_rfl, rfl⟩
theorem cl85 : Calb Tryz.prog 85 := ⟨Tryz.f85, Tryz.func85, by kernel_rfl, rfl⟩
theorem cl86 : Calb Tryz.prog 86 := ⟨Tryz.f86, Tryz.func86, by kernel_rfl, rfl⟩
theorem cl87 : Calb Tryz.prog 87 := ⟨Tryz.f87, Tryz.func87, by kernel_rfl, rfl⟩
theorem cl88 : Calb Tryz.prog 88 := ⟨Tryz.f88, Tryz.func88, by kernel_rfl, rfl⟩
theorem cl89 : Calb Tryz.prog 89 := ⟨Tryz.f89, Tryz.func89, by kernel_rfl, rfl⟩
theorem cl9 : Calb Tryz.prog 9 := ⟨Tryz.f9, Tryz.func9, by kernel_rfl, rfl⟩
theorem cl91 : Calb Tryz.prog 91 := ⟨Tryz.f91, Tryz.func91, by kernel_rfl, rfl⟩
theorem cl95 : Calb Tryz.prog 95 := ⟨Tryz.f95, Tryz.func95, by kernel_rfl, rfl⟩
theorem cl96 : Calb Tryz.prog 96 := ⟨Tryz.f96, Tryz.func96, by kernel_rfl, rfl⟩
theorem eS108 : (elOf Tryz.prog 108).isSome = true := by kernel_rfl
theorem eS117 : (elOf Tryz.prog 117).isSome = true := by kernel_rfl
theorem eS123 : (elOf Tryz.prog 123).isSome = true := by kernel_rfl
theorem eS159 : (elOf Tryz.prog 159).isSome = true := by kernel_rfl
theorem eS205 : (elOf Tryz.prog 205).isSome = true := by kernel_rfl
theorem eS22 : (elOf Tryz.prog 22).isSome = true := by kernel_rfl
theorem eS25 : (elOf Tryz.prog 25).isSome = true := by kernel_rfl
theorem eS29 : (elOf Tryz.prog 29).isSome = true := by kernel_rfl
theorem eS32 : (elOf Tryz.prog 32).isSome = true := by kernel_rfl
theorem eS40 : (elOf Tryz.prog 40).isSome = true := by kernel_rfl
theorem eS63 : (elOf Tryz.prog 63).isSome = true := by kernel_rfl
theorem eS73 : (elOf Tryz.prog 73).isSome = true := by kernel_rfl
theorem eS78 : (elOf Tryz.prog 78).isSome = true := by kernel_rfl
theorem el108 : elOf Tryz.prog 108 = some (213, 2) := by kernel_rfl
theorem el117 : elOf Tryz.prog 117 = some (183, 2) := by kernel_rfl
theorem el123 : elOf Tryz.prog 123 = some (122, 2) := by kernel_rfl
theorem el156 : elOf Tryz.prog 156 = some (9, 1) := by kernel_rfl
theorem el159 : elOf Tryz.prog 159 = some (207, 2) := by kernel_rfl
theorem el205 : elOf Tryz.prog 205 = some (261, 2) := by kernel_rfl
theorem el22 : elOf Tryz.prog 22 = some (42, 3) := by kernel_rfl
theorem el25 : elOf Tryz.prog 25 = some (159, 1) := by kernel_rfl
theorem el29 : elOf Tryz.prog 29 = some (45, 3) := by kernel_rfl
theorem el32 : elOf Tryz.prog 32 = some (63, 1) := by kernel_rfl
theorem el40 : elOf Tryz.prog 40 = some (3, 1) := by kernel_rfl
theorem el63 : elOf Tryz.prog 63 = some (125, 2) := by kernel_rfl
theorem el73 : elOf Tryz.prog 73 = some (5, 1) := by kernel_rfl
theorem el78 : elOf Tryz.prog 78 = some (190, 2) := by kernel_rfl
theorem fd122_0 : fdOf Tryz.prog 122 0 = some (0, 1, false) := by kernel_rfl
theorem fd122_1 : fdOf Tryz.prog 122 1 = some (1, 1, false) := by kernel_rfl
theorem fd125_0 : fdOf Tryz.prog 125 0 = some (0, 1, false) := by kernel_rfl
theorem fd125_1 : fdOf Tryz.prog 125 1 = some (1, 1, false) := by kernel_rfl
theorem fd183_0 : fdOf Tryz.prog 183 0 = some (0, 1, false) := by kernel_rfl
theorem fd183_1 : fdOf Tryz.prog 183 1 = some (1, 1, false) := by kernel_rfl
theorem fd190_0 : fdOf Tryz.prog 190 0 = some (0, 1, false) := by kernel_rfl
theorem fd190_1 : fdOf Tryz.prog 190 1 = some (1, 1, false) := by kernel_rfl
theorem fd207_0 : fdOf Tryz.prog 207 0 = some (0, 1, false) := by kernel_rfl
theorem fd207_1 : fdOf Tryz.prog 207 1 = some (1, 1, false) := by kernel_rfl
theorem fd213_0 : fdOf Tryz.prog 213 0 = some (0, 1, false) := by kernel_rfl
theorem fd213_1 : fdOf Tryz.prog 213 1 = some (1, 1, false) := by kernel_rfl
theorem fd24_0 : fdOf Tryz.prog 24 0 = some (0, 1, false) := by kernel_rfl
theorem fd24_1 : fdOf Tryz.prog 24 1 = some (1, 1, false) := by kernel_rfl
theorem fd261_0 : fdOf Tryz.prog 261 0 = some (0, 1, false) := by kernel_rfl
theorem fd261_1 : fdOf Tryz.prog 261 1 = some (1, 1, false) := by kernel_rfl
theorem fd27_0 : fdOf Tryz.prog 27 0 = some (0, 2, true) := by kernel_rfl
theorem fd27_1 : fdOf Tryz.prog 27 1 = some (2, 1, false) := by kernel_rfl
theorem fd31_0 : fdOf Tryz.prog 31 0 = some (0, 1, false) := by kernel_rfl
theorem fd31_1 : fdOf Tryz.prog 31 1 = some (1, 1, false) := by kernel_rfl
theorem fd34_0 : fdOf Tryz.prog 34 0 = some (0, 2, true) := by kernel_rfl
theorem fd34_1 : fdOf Tryz.prog 34 1 = some (2, 1, false) := by kernel_rfl
theorem fd42_0 : fdOf Tryz.prog 42 0 = some (0, 1, false) := by kernel_rfl
theorem fd42_1 : fdOf Tryz.prog 42 1 = some (1, 1, false) := by kernel_rfl
theorem fd42_2 : fdOf Tryz.prog 42 2 = some (2, 1, false) := by kernel_rfl
theorem fd45_0 : fdOf Tryz.prog 45 0 = some (0, 1, false) := by kernel_rfl
theorem fd45_1 : fdOf Tryz.prog 45 1 = some (1, 1, false) := by kernel_rfl
theorem fd45_2 : fdOf Tryz.prog 45 2 = some (2, 1, false) := by kernel_rfl
theorem ik142 : inkOf Tryz.prog 142 = some .u64 := by kernel_rfl
theorem ik172 : inkOf Tryz.prog 172 = some .u64 := by kernel_rfl
theorem ik3 : inkOf Tryz.prog 3 = some .i64 := by kernel_rfl
theorem ik5 : inkOf Tryz.prog 5 = some .u8 := by kernel_rfl
theorem mp209 : mpOf Tryz.prog 209 = some (3, 4, .i64) := by kernel_rfl
theorem st9 : strOf Tryz.prog 9 = true := by kernel_rfl
theorem sz117 : szOf Tryz.prog 117 = some 1 := by kernel_rfl
theorem sz122 : szOf Tryz.prog 122 = some 2 := by kernel_rfl
theorem sz123 : szOf Tryz.prog 123 = some 1 := by kernel_rfl
theorem sz125 : szOf Tryz.prog 125 = some 2 := by kernel_rfl
theorem sz183 : szOf Tryz.prog 183 = some 2 := by kernel_rfl
theorem sz190 : szOf Tryz.prog 190 = some 2 := by kernel_rfl
theorem sz207 : szOf Tryz.prog 207 = some 2 := by kernel_rfl
theorem sz213 : szOf Tryz.prog 213 = some 2 := by kernel_rfl
theorem sz24 : szOf Tryz.prog 24 = some 2 := by kernel_rfl
theorem sz261 : szOf Tryz.prog 261 = some 2 := by kernel_rfl
theorem sz27 : szOf Tryz.prog 27 = some 3 := by kernel_rfl
theorem sz29 : szOf Tryz.prog 29 = some 1 := by kernel_rfl
theorem sz3 : szOf Tryz.prog 3 = some 1 := by kernel_rfl
theorem sz31 : szOf Tryz.prog 31 = some 2 := by kernel_rfl
theorem sz32 : szOf Tryz.prog 32 = some 1 := by kernel_rfl
theorem sz34 : szOf Tryz.prog 34 = some 3 := by kernel_rfl
theorem sz40 : szOf Tryz.prog 40 = some 1 := by kernel_rfl
theorem sz42 : szOf Tryz.prog 42 = some 3 := by kernel_rfl
theorem sz45 : szOf Tryz.prog 45 = some 3 := by kernel_rfl
theorem sz63 : szOf Tryz.prog 63 = some 1 := by kernel_rfl
theorem sz78 : szOf Tryz.prog 78 = some 1 := by kernel_rfl
theorem sz9 : szOf Tryz.prog 9 = some 1 := by kernel_rfl
theorem ze117 : zeroOf Tryz.prog 117 = some (.slice none 0 0) := by kernel_rfl
theorem ze122 : zeroOf Tryz.prog 122 = some (.agg #[.int .i64 0, .int .i64 0]) := by kernel_rfl
theorem ze125 : zeroOf Tryz.prog 125 = some (.agg #[.slice none 0 0, .slice none 0 0]) := by kernel_rfl
theorem ze183 : zeroOf Tryz.prog 183 = some (.agg #[.int .i64 0, .int .i64 0]) := by kernel_rfl
theorem ze190 : zeroOf Tryz.prog 190 = some (.agg #[.string ⟨#[]⟩, .string ⟨#[]⟩]) := by kernel_rfl
theorem ze3 : zeroOf Tryz.prog 3 = some (.int .i64 0) := by kernel_rfl
theorem ze31 : zeroOf Tryz.prog 31 = some (.agg #[.int .i64 0, .slice none 0 0]) := by kernel_rfl
theorem ze34 : zeroOf Tryz.prog 34 = some (.agg #[.int .i64 0, .slice none 0 0, .slice none 0 0]) := by kernel_rfl
theorem ze4 : zeroOf Tryz.prog 4 = some (.bool false) := by kernel_rfl
theorem ze45 : zeroOf Tryz.prog 45 = some (.agg #[.string ⟨#[]⟩, .int .i64 0, .slice none 0 0]) := by kernel_rfl
theorem ze5 : zeroOf Tryz.prog 5 = some (.int .u8 0) := by kernel_rfl
theorem ze63 : zeroOf Tryz.prog 63 = some (.slice none 0 0) := by kernel_rfl
theorem ze9 : zeroOf Tryz.prog 9 = some (.string ⟨#[]⟩) := by kernel_rfl
end Go.Ring
