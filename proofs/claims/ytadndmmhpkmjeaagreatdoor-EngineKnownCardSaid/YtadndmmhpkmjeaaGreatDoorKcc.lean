/-
  The closed runs as contracts.
-/
import Derived.Test.YtadndmmhpkmjeaaGreatDoorGz0
import Derived.Test.YtadndmmhpkmjeaaGreatDoorGz2
import Derived.Test.YtadndmmhpkmjeaaGreatDoorGz4
import Derived.Test.YtadndmmhpkmjeaaGreatDoorGz6
import Derived.Test.YtadndmmhpkmjeaaGreatDoorGz8
import Derived.Test.YtadndmmhpkmjeaaGreatDoorGz10
import Derived.Test.YtadndmmhpkmjeaaGreatDoorGz32
import Derived.Test.YtadndmmhpkmjeaaGreatDoorGz12
import Derived.Test.YtadndmmhpkmjeaaGreatDoorGz14
import Derived.Test.YtadndmmhpkmjeaaGreatDoorGz16
import Derived.Test.YtadndmmhpkmjeaaGreatDoorGz18
import Derived.Test.YtadndmmhpkmjeaaGreatDoorGz20
import Derived.Test.YtadndmmhpkmjeaaGreatDoorGz22
import Derived.Test.YtadndmmhpkmjeaaGreatDoorGz24
import Derived.Test.YtadndmmhpkmjeaaGreatDoorGz26
import Derived.Test.YtadndmmhpkmjeaaGreatDoorGz28
import Derived.Test.YtadndmmhpkmjeaaGreatDoorGz30

namespace Go.Proofs.YtadndmmhpkmjeaaGreatDoor
open Go.RowKit Am
theorem k2 : KSound Tryz.prog (rowsK baseK l2) := baseK_ok
theorem c2 : Row.C Tryz.prog q2 := row_c k2 (by have h := g0; simp only [Bool.and_eq_true] at h; exact h.1)
theorem k4 : KSound Tryz.prog (rowsK baseK l4) := rowsK_cons k2 c2
theorem c4 : Row.C Tryz.prog q4 := row_c k4 (by have h := g0; simp only [Bool.and_eq_true] at h; exact h.2.1)
theorem k33 : KSound Tryz.prog (rowsK baseK l33) := rowsK_cons k4 c4
theorem c33 : Row.C Tryz.prog q33 := row_c k33 (by have h := g0; simp only [Bool.and_eq_true] at h; exact h.2.2.1)
theorem k36 : KSound Tryz.prog (rowsK baseK l36) := rowsK_cons k33 c33
theorem c36 : Row.C Tryz.prog q36 := row_c k36 (by have h := g0; simp only [Bool.and_eq_true] at h; exact h.2.2.2.1)
theorem k54 : KSound Tryz.prog (rowsK baseK l54) := rowsK_cons k36 c36
theorem c54 : Row.C Tryz.prog q54 := row_c k54 (by have h := g1; simp only [Bool.and_eq_true] at h; exact h.1)
theorem k68 : KSound Tryz.prog (rowsK baseK l68) := rowsK_cons k54 c54
theorem c68 : Row.C Tryz.prog q68 := row_c k68 (by have h := g2; simp only [Bool.and_eq_true] at h; exact h.1)
theorem k71 : KSound Tryz.prog (rowsK baseK l71) := rowsK_cons k68 c68
theorem c71 : Row.C Tryz.prog q71 := row_c k71 (by have h := g2; simp only [Bool.and_eq_true] at h; exact h.2.1)
theorem k79 : KSound Tryz.prog (rowsK baseK l79) := rowsK_cons k71 c71
theorem c79 : Row.C Tryz.prog q79 := row_c k79 (by have h := g2; simp only [Bool.and_eq_true] at h; exact h.2.2.1)
theorem k80 : KSound Tryz.prog (rowsK baseK l80) := rowsK_cons k79 c79
theorem c80 : Row.C Tryz.prog q80 := row_c k80 (by have h := g2; simp only [Bool.and_eq_true] at h; exact h.2.2.2.1)
theorem k81 : KSound Tryz.prog (rowsK baseK l81) := rowsK_cons k80 c80
theorem c81 : Row.C Tryz.prog q81 := row_c k81 (by have h := g2; simp only [Bool.and_eq_true] at h; exact h.2.2.2.2.1)
theorem k82 : KSound Tryz.prog (rowsK baseK l82) := rowsK_cons k81 c81
theorem c82 : Row.C Tryz.prog q82 := row_c k82 (by have h := g2; simp only [Bool.and_eq_true] at h; exact h.2.2.2.2.2.1)
theorem k83 : KSound Tryz.prog (rowsK baseK l83) := rowsK_cons k82 c82
theorem c83 : Row.C Tryz.prog q83 := row_c k83 (by have h := g2; simp only [Bool.and_eq_true] at h; exact h.2.2.2.2.2.2.1)
theorem k84 : KSound Tryz.prog (rowsK baseK l84) := rowsK_cons k83 c83
theorem c84 : Row.C Tryz.prog q84 := row_c k84 (by have h := g3; simp only [Bool.and_eq_true] at h; exact h.1)
theorem k85 : KSound Tryz.prog (rowsK baseK l85) := rowsK_cons k84 c84
theorem c85 : Row.C Tryz.prog q85 := row_c k85 (by have h := g3; simp only [Bool.and_eq_true] at h; exact h.2.1)
theorem k86 : KSound Tryz.prog (rowsK baseK l86) := rowsK_cons k85 c85
theorem c86 : Row.C Tryz.prog q86 := row_c k86 (by have h := g3; simp only [Bool.and_eq_true] at h; exact h.2.2.1)
theorem k112 : KSound Tryz.prog (rowsK baseK l112) := rowsK_cons k86 c86
theorem c112 : Row.C Tryz.prog q112 := row_c k112 (by have h := g4; simp only [Bool.and_eq_true] at h; exact h.1)
theorem k117 : KSound Tryz.prog (rowsK baseK l117) := rowsK_cons k112 c112
theorem c117 : Row.C Tryz.prog q117 := row_c k117 (by have h := g4; simp only [Bool.and_eq_true] at h; exact h.2.1)
theorem k118 : KSound Tryz.prog (rowsK baseK l118) := rowsK_cons k117 c117
theorem c118 : Row.C Tryz.prog q118 := row_c k118 (by have h := g4; simp only [Bool.and_eq_true] at h; exact h.2.2.1)
theorem k119 : KSound Tryz.prog (rowsK baseK l119) := rowsK_cons k118 c118
theorem c119 : Row.C Tryz.prog q119 := row_c k119 (by have h := g4; simp only [Bool.and_eq_true] at h; exact h.2.2.2.1)
theorem k127 : KSound Tryz.prog (rowsK baseK l127) := rowsK_cons k119 c119
theorem c127 : Row.C Tryz.prog q127 := row_c k127 (by have h := g4; simp only [Bool.and_eq_true] at h; exact h.2.2.2.2.1)
theorem k132 : KSound Tryz.prog (rowsK baseK l132) := rowsK_cons k127 c127
theorem c132 : Row.C Tryz.prog q132 := row_c k132 (by have h := g4; simp only [Bool.and_eq_true] at h; exact h.2.2.2.2.2.1)
theorem k134 : KSound Tryz.prog (rowsK baseK l134) := rowsK_cons k132 c132
theorem c134 : Row.C Tryz.prog q134 := row_c k134 (by have h := g4; simp only [Bool.and_eq_true] at h; exact h.2.2.2.2.2.2.1)
theorem k136 : KSound Tryz.prog (rowsK baseK l136) := rowsK_cons k134 c134
theorem c136 : Row.C Tryz.prog q136 := row_c k136 (by have h := g5; simp only [Bool.and_eq_true] at h; exact h.1)
theorem k137 : KSound Tryz.prog (rowsK baseK l137) := rowsK_cons k136 c136
theorem c137 : Row.C Tryz.prog q137 := row_c k137 (by have h := g5; simp only [Bool.and_eq_true] at h; exact h.2.1)
theorem k140 : KSound Tryz.prog (rowsK baseK l140) := rowsK_cons k137 c137
theorem c140 : Row.C Tryz.prog q140 := row_c k140 (by have h := g5; simp only [Bool.and_eq_true] at h; exact h.2.2.1)
theorem k142 : KSound Tryz.prog (rowsK baseK l142) := rowsK_cons k140 c140
theorem c142 : Row.C Tryz.prog q142 := row_c k142 (by have h := g5; simp only [Bool.and_eq_true] at h; exact h.2.2.2.1)
theorem k150 : KSound Tryz.prog (rowsK baseK l150) := rowsK_cons k142 c142
theorem c150 : Row.C Tryz.prog q150 := row_c k150 (by have h := g5; simp only [Bool.and_eq_true] at h; exact h.2.2.2.2.1)
theorem k154 : KSound Tryz.prog (rowsK baseK l154) := rowsK_cons k150 c150
theorem c154 : Row.C Tryz.prog q154 := row_c k154 (by have h := g5; simp only [Bool.and_eq_true] at h; exact h.2.2.2.2.2.1)
theorem k159 : KSound Tryz.prog (rowsK baseK l159) := rowsK_cons k154 c154
theorem c159 : Row.C Tryz.prog q159 := row_c k159 (by have h := g5; simp only [Bool.and_eq_true] at h; exact h.2.2.2.2.2.2.1)
theorem k160 : KSound Tryz.prog (rowsK baseK l160) := rowsK_cons k159 c159
theorem c160 : Row.C Tryz.prog q160 := row_c k160 (by have h := g6; simp only [Bool.and_eq_true] at h; exact h.1)
theorem k163 : KSound Tryz.prog (rowsK baseK l163) := rowsK_cons k160 c160
theorem c163 : Row.C Tryz.prog q163 := row_c k163 (by have h := g6; simp only [Bool.and_eq_true] at h; exact h.2.1)
theorem k167 : KSound Tryz.prog (rowsK baseK l167) := rowsK_cons k163 c163
theorem c167 : Row.C Tryz.prog q167 := row_c k167 (by have h := g7; simp only [Bool.and_eq_true] at h; exact h.1)
theorem k173 : KSound Tryz.prog (rowsK baseK l173) := rowsK_cons k167 c167
theorem c173 : Row.C Tryz.prog q173 := row_c k173 (by have h := g8; simp only [Bool.and_eq_true] at h; exact h.1)
theorem k179 : KSound Tryz.prog (rowsK baseK l179) := rowsK_cons k173 c173
theorem c179 : Row.C Tryz.prog q179 := row_c k179 (by have h := g8; simp only [Bool.and_eq_true] at h; exact h.2.1)
theorem k180 : KSound Tryz.prog (rowsK baseK l180) := rowsK_cons k179 c179
theorem c180 : Row.C Tryz.prog q180 := row_c k180 (by have h := g8; simp only [Bool.and_eq_true] at h; exact h.2.2.1)
theorem k182 : KSound Tryz.prog (rowsK baseK l182) := rowsK_cons k180 c180
theorem c182 : Row.C Tryz.prog q182 := row_c k182 (by have h := g8; simp only [Bool.and_eq_true] at h; exact h.2.2.2.1)
theorem k184 : KSound Tryz.prog (rowsK baseK l184) := rowsK_cons k182 c182
theorem c184 : Row.C Tryz.prog q184 := row_c k184 (by have h := g8; simp only [Bool.and_eq_true] at h; exact h.2.2.2.2.1)
theorem k187 : KSound Tryz.prog (rowsK baseK l187) := rowsK_cons k184 c184
theorem c187 : Row.C Tryz.prog q187 := row_c k187 (by have h := g8; simp only [Bool.and_eq_true] at h; exact h.2.2.2.2.2.1)
theorem k211 : KSound Tryz.prog (rowsK baseK l211) := rowsK_cons k187 c187
theorem c211 : Row.C Tryz.prog q211 := row_c k211 (by have h := g9; simp only [Bool.and_eq_true] at h; exact h.1)
theorem k213 : KSound Tryz.prog (rowsK baseK l213) := rowsK_cons k211 c211
theorem c213 : Row.C Tryz.prog q213 := row_c k213 (by have h := g9; simp only [Bool.and_eq_true] at h; exact h.2.1)
theorem k215 : KSound Tryz.prog (rowsK baseK l215) := rowsK_cons k213 c213
theorem c215 : Row.C Tryz.prog q215 := row_c k215 (by have h := g9; simp only [Bool.and_eq_true] at h; exact h.2.2.1)
theorem k217 : KSound Tryz.prog (rowsK baseK l217) := rowsK_cons k215 c215
theorem c217 : Row.C Tryz.prog q217 := row_c k217 (by have h := g9; simp only [Bool.and_eq_true] at h; exact h.2.2.2.1)
theorem k237 : KSound Tryz.prog (rowsK baseK l237) := rowsK_cons k217 c217
theorem c237 : Row.C Tryz.prog q237 := row_c k237 (by have h := g10; simp only [Bool.and_eq_true] at h; exact h.1)
theorem k239 : KSound Tryz.prog (rowsK baseK l239) := rowsK_cons k237 c237
theorem c239 : Row.C Tryz.prog q239 := row_c k239 (by have h := g10; simp only [Bool.and_eq_true] at h; exact h.2.1)
theorem k240 : KSound Tryz.prog (rowsK baseK l240) := rowsK_cons k239 c239
theorem c240 : Row.C Tryz.prog q240 := row_c k240 (by have h := g10; simp only [Bool.and_eq_true] at h; exact h.2.2.1)
theorem k243 : KSound Tryz.prog (rowsK baseK l243) := rowsK_cons k240 c240
theorem c243 : Row.C Tryz.prog q243 := row_c k243 (by have h := g10; simp only [Bool.and_eq_true] at h; exact h.2.2.2.1)
theorem k246 : KSound Tryz.prog (rowsK baseK l246) := rowsK_cons k243 c243
theorem c246 : Row.C Tryz.prog q246 := row_c k246 (by have h := g10; simp only [Bool.and_eq_true] at h; exact h.2.2.2.2.1)
theorem k247 : KSound Tryz.prog (rowsK baseK l247) := rowsK_cons k246 c246
theorem c247 : Row.C Tryz.prog q247 := row_c k247 (by have h := g10; simp only [Bool.and_eq_true] at h; exact h.2.2.2.2.2.1)
theorem k252 : KSound Tryz.prog (rowsK baseK l252) := rowsK_cons k247 c247
theorem c252 : Row.C Tryz.prog q252 := row_c k252 (by have h := g10; simp only [Bool.and_eq_true] at h; exact h.2.2.2.2.2.2.1)
theorem k259 : KSound Tryz.prog (rowsK baseK l259) := rowsK_cons k252 c252
theorem c259 : Row.C Tryz.prog q259 := row_c k259 (by have h := g11; simp only [Bool.and_eq_true] at h; exact h.1)
theorem k261 : KSound Tryz.prog (rowsK baseK l261) := rowsK_cons k259 c259
theorem c261 : Row.C Tryz.prog q261 := row_c k261 (by have h := g11; simp only [Bool.and_eq_true] at h; exact h.2.1)
theorem k262 : KSound Tryz.prog (rowsK baseK l262) := rowsK_cons k261 c261
theorem c262 : Row.C Tryz.prog q262 := row_c k262 (by have h := g11; simp only [Bool.and_eq_true] at h; exact h.2.2.1)
theorem k265 : KSound Tryz.prog (rowsK baseK l265) := rowsK_cons k262 c262
theorem c265 : Row.C Tryz.prog q265 := row_c k265 (by have h := g11; simp only [Bool.and_eq_true] at h; exact h.2.2.2.1)
theorem k269 : KSound Tryz.prog (rowsK baseK l269) := rowsK_cons k265 c265
theorem c269 : Row.C Tryz.prog q269 := row_c k269 (by have h := g11; simp only [Bool.and_eq_true] at h; exact h.2.2.2.2.1)
theorem k270 : KSound Tryz.prog (rowsK baseK l270) := rowsK_cons k269 c269
theorem c270 : Row.C Tryz.prog q270 := row_c k270 (by have h := g11; simp only [Bool.and_eq_true] at h; exact h.2.2.2.2.2.1)
theorem k272 : KSound Tryz.prog (rowsK baseK l272) := rowsK_cons k270 c270
theorem c272 : Row.C Tryz.prog q272 := row_c k272 (by have h := g11; simp only [Bool.and_eq_true] at h; exact h.2.2.2.2.2.2.1)
theorem k277 : KSound Tryz.prog (rowsK baseK l277) := rowsK_cons k272 c272
theorem c277 : Row.C Tryz.prog q277 := row_c k277 (by have h := g11; simp only [Bool.and_eq_true] at h; exact h.2.2.2.2.2.2.2.1)
theorem k284 : KSound Tryz.prog (rowsK baseK l284) := rowsK_cons k277 c277
theorem c284 : Row.C Tryz.prog q284 := row_c k284 (by have h := g12; simp only [Bool.and_eq_true] at h; exact h.1)
theorem k287 : KSound Tryz.prog (rowsK baseK l287) := rowsK_cons k284 c284
theorem c287 : Row.C Tryz.prog q287 := row_c k287 (by have h := g12; simp only [Bool.and_eq_true] at h; exact h.2.1)
theorem k292 : KSound Tryz.prog (rowsK baseK l292) := rowsK_cons k287 c287
theorem csm0 : Row.C Tryz.prog sm0 := row_c k292 (by have h := g32; simp only [Bool.and_eq_true] at h; exact h.1)
theorem csm1 : Row.C Tryz.prog sm1 := row_c k292 (by have h := g32; simp only [Bool.and_eq_true] at h; exact h.2.1)
theorem csm2 : Row.C Tryz.prog sm2 := row_c k292 (by have h := g32; simp only [Bool.and_eq_true] at h; exact h.2.2.1)
theorem csm3 : Row.C Tryz.prog sm3 := row_c k292 (by have h := g32; simp only [Bool.and_eq_true] at h; exact h.2.2.2.1)
theorem csm4 : Row.C Tryz.prog sm4 := row_c k292 (by have h := g32; simp only [Bool.and_eq_true] at h; exact h.2.2.2.2.1)
theorem csm5 : Row.C Tryz.prog sm5 := row_c k292 (by have h := g32; simp only [Bool.and_eq_true] at h; exact h.2.2.2.2.2.1)
theorem k292s : KSound Tryz.prog (rowsK baseK l292s) := (rowsK_cons (rowsK_cons (rowsK_cons (rowsK_cons (rowsK_cons (rowsK_cons k292 csm0) csm1) csm2) csm3) csm4) csm5)
theorem c292 : Row.C Tryz.prog q292 := row_c k292s (by have h := g13; simp only [Bool.and_eq_true] at h; exact h.1)
theorem k300 : KSound Tryz.prog (rowsK baseK l300) := rowsK_cons k292 c292
theorem c300 : Row.C Tryz.prog q300 := row_c k300 (by have h := g14; simp only [Bool.and_eq_true] at h; exact h.1)
theorem k306 : KSound Tryz.prog (rowsK baseK l306) := rowsK_cons k300 c300
theorem k306s : KSound Tryz.prog (rowsK baseK l306s) := (rowsK_cons (rowsK_cons (rowsK_cons (rowsK_cons (rowsK_cons (rowsK_cons k306 csm0) csm1) csm2) csm3) csm4) csm5)
theorem c306 : Row.C Tryz.prog q306 := row_c k306s (by have h := g15; simp only [Bool.and_eq_true] at h; exact h.1)
theorem k310 : KSound Tryz.prog (rowsK baseK l310) := rowsK_cons k306 c306
theorem c310 : Row.C Tryz.prog q310 := row_c k310 (by have h := g16; simp only [Bool.and_eq_true] at h; exact h.1)
theorem k311 : KSound Tryz.prog (rowsK baseK l311) := rowsK_cons k310 c310
theorem c311 : Row.C Tryz.prog q311 := row_c k311 (by have h := g16; simp only [Bool.and_eq_true] at h; exact h.2.1)
theorem k312 : KSound Tryz.prog (rowsK baseK l312) := rowsK_cons k311 c311
theorem c312 : Row.C Tryz.prog q312 := row_c k312 (by have h := g16; simp only [Bool.and_eq_true] at h; exact h.2.2.1)
theorem k320 : KSound Tryz.prog (rowsK baseK l320) := rowsK_cons k312 c312
theorem c320 : Row.C Tryz.prog q320 := row_c k320 (by have h := g16; simp only [Bool.and_eq_true] at h; exact h.2.2.2.1)
theorem k330 : KSound Tryz.prog (rowsK baseK l330) := rowsK_cons k320 c320
theorem c330 : Row.C Tryz.prog q330 := row_c k330 (by have h := g16; simp only [Bool.and_eq_true] at h; exact h.2.2.2.2.1)
theorem k332 : KSound Tryz.prog (rowsK baseK l332) := rowsK_cons k330 c330
theorem c332 : Row.C Tryz.prog q332 := row_c k332 (by have h := g17; simp only [Bool.and_eq_true] at h; exact h.1)
theorem k347 : KSound Tryz.prog (rowsK baseK l347) := rowsK_cons k332 c332
theorem c347 : Row.C Tryz.prog q347 := row_c k347 (by have h := g17; simp only [Bool.and_eq_true] at h; exact h.2.1)
theorem k391 : KSound Tryz.prog (rowsK baseK l391) := rowsK_cons k347 c347
theorem c391 : Row.C Tryz.prog q391 := row_c k391 (by have h := g18; simp only [Bool.and_eq_true] at h; exact h.1)
theorem k400 : KSound Tryz.prog (rowsK baseK l400) := rowsK_cons k391 c391
theorem c400 : Row.C Tryz.prog q400 := row_c k400 (by have h := g19; simp only [Bool.and_eq_true] at h; exact h.1)
theorem k407 : KSound Tryz.prog (rowsK baseK l407) := rowsK_cons k400 c400
theorem c407 : Row.C Tryz.prog q407 := row_c k407 (by have h := g19; simp only [Bool.and_eq_true] at h; exact h.2.1)
theorem k409 : KSound Tryz.prog (rowsK baseK l409) := rowsK_cons k407 c407
theorem c409 : Row.C Tryz.prog q409 := row_c k409 (by have h := g19; simp only [Bool.and_eq_true] at h; exact h.2.2.1)
theorem k411 : KSound Tryz.prog (rowsK baseK l411) := rowsK_cons k409 c409
theorem c411 : Row.C Tryz.prog q411 := row_c k411 (by have h := g19; simp only [Bool.and_eq_true] at h; exact h.2.2.2.1)
theorem k418 : KSound Tryz.prog (rowsK baseK l418) := rowsK_cons k411 c411
theorem c418 : Row.C Tryz.prog q418 := row_c k418 (by have h := g19; simp only [Bool.and_eq_true] at h; exact h.2.2.2.2.1)
theorem k425 : KSound Tryz.prog (rowsK baseK l425) := rowsK_cons k418 c418
theorem c425 : Row.C Tryz.prog q425 := row_c k425 (by have h := g19; simp only [Bool.and_eq_true] at h; exact h.2.2.2.2.2.1)
theorem k436 : KSound Tryz.prog (rowsK baseK l436) := rowsK_cons k425 c425
theorem c436 : Row.C Tryz.prog q436 := row_c k436 (by have h := g20; simp only [Bool.and_eq_true] at h; exact h.1)
theorem k439 : KSound Tryz.prog (rowsK baseK l439) := rowsK_cons k436 c436
theorem c439 : Row.C Tryz.prog q439 := row_c k439 (by have h := g20; simp only [Bool.and_eq_true] at h; exact h.2.1)
theorem k442 : KSound Tryz.prog (rowsK baseK l442) := rowsK_cons k439 c439
theorem c442 : Row.C Tryz.prog q442 := row_c k442 (by have h := g20; simp only [Bool.and_eq_true] at h; exact h.2.2.1)
theorem k447 : KSound Tryz.prog (rowsK baseK l447) := rowsK_cons k442 c442
theorem c447 : Row.C Tryz.prog q447 := row_c k447 (by have h := g20; simp only [Bool.and_eq_true] at h; exact h.2.2.2.1)
theorem k451 : KSound Tryz.prog (rowsK baseK l451) := rowsK_cons k447 c447
theorem c451 : Row.C Tryz.prog q451 := row_c k451 (by have h := g20; simp only [Bool.and_eq_true] at h; exact h.2.2.2.2.1)
theorem k455 : KSound Tryz.prog (rowsK baseK l455) := rowsK_cons k451 c451
theorem c455 : Row.C Tryz.prog q455 := row_c k455 (by have h := g20; simp only [Bool.and_eq_true] at h; exact h.2.2.2.2.2.1)
theorem k458 : KSound Tryz.prog (rowsK baseK l458) := rowsK_cons k455 c455
theorem c458 : Row.C Tryz.prog q458 := row_c k458 (by have h := g20; simp only [Bool.and_eq_true] at h; exact h.2.2.2.2.2.2.1)
theorem k460 : KSound Tryz.prog (rowsK baseK l460) := rowsK_cons k458 c458
theorem c460 : Row.C Tryz.prog q460 := row_c k460 (by have h := g21; simp only [Bool.and_eq_true] at h; exact h.1)
theorem k463 : KSound Tryz.prog (rowsK baseK l463) := rowsK_cons k460 c460
theorem c463 : Row.C Tryz.prog q463 := row_c k463 (by have h := g22; simp only [Bool.and_eq_true] at h; exact h.1)
theorem k469 : KSound Tryz.prog (rowsK baseK l469) := rowsK_cons k463 c463
theorem c469 : Row.C Tryz.prog q469 := row_c k469 (by have h := g23; simp only [Bool.and_eq_true] at h; exact h.1)
theorem k477 : KSound Tryz.prog (rowsK baseK l477) := rowsK_cons k469 c469
theorem c477 : Row.C Tryz.prog q477 := row_c k477 (by have h := g24; simp only [Bool.and_eq_true] at h; exact h.1)
theorem k499 : KSound Tryz.prog (rowsK baseK l499) := rowsK_cons k477 c477
theorem c499 : Row.C Tryz.prog q499 := row_c k499 (by have h := g24; simp only [Bool.and_eq_true] at h; exact h.2.1)
theorem k512 : KSound Tryz.prog (rowsK baseK l512) := rowsK_cons k499 c499
theorem c512 : Row.C Tryz.prog q512 := row_c k512 (by have h := g25; simp only [Bool.and_eq_true] at h; exact h.1)
theorem k514 : KSound Tryz.prog (rowsK baseK l514) := rowsK_cons k512 c512
theorem c514 : Row.C Tryz.prog q514 := row_c k514 (by have h := g25; simp only [Bool.and_eq_true] at h; exact h.2.1)
theorem k515 : KSound Tryz.prog (rowsK baseK l515) := rowsK_cons k514 c514
theorem c515 : Row.C Tryz.prog q515 := row_c k515 (by have h := g25; simp only [Bool.and_eq_true] at h; exact h.2.2.1)
theorem k517 : KSound Tryz.prog (rowsK baseK l517) := rowsK_cons k515 c515
theorem c517 : Row.C Tryz.prog q517 := row_c k517 (by have h := g25; simp only [Bool.and_eq_true] at h; exact h.2.2.2.1)
theorem k518 : KSound Tryz.prog (rowsK baseK l518) := rowsK_cons k517 c517
theorem c518 : Row.C Tryz.prog q518 := row_c k518 (by have h := g25; simp only [Bool.and_eq_true] at h; exact h.2.2.2.2.1)
theorem k520 : KSound Tryz.prog (rowsK baseK l520) := rowsK_cons k518 c518
theorem c520 : Row.C Tryz.prog q520 := row_c k520 (by have h := g25; simp only [Bool.and_eq_true] at h; exact h.2.2.2.2.2.1)
theorem k534 : KSound Tryz.prog (rowsK baseK l534) := rowsK_cons k520 c520
theorem c534 : Row.C Tryz.prog q534 := row_c k534 (by have h := g26; simp only [Bool.and_eq_true] at h; exact h.1)
theorem k539 : KSound Tryz.prog (rowsK baseK l539) := rowsK_cons k534 c534
theorem c539 : Row.C Tryz.prog q539 := row_c k539 (by have h := g26; simp only [Bool.and_eq_true] at h; exact h.2.1)
theorem k563 : KSound Tryz.prog (rowsK baseK l563) := rowsK_cons k539 c539
theorem c563 : Row.C Tryz.prog q563 := row_c k563 (by have h := g27; simp only [Bool.and_eq_true] at h; exact h.1)
theorem k578 : KSound Tryz.prog (rowsK baseK l578) := rowsK_cons k563 c563
theorem c578 : Row.C Tryz.prog q578 := row_c k578 (by have h := g27; simp only [Bool.and_eq_true] at h; exact h.2.1)
theorem k579 : KSound Tryz.prog (rowsK baseK l579) := rowsK_cons k578 c578
theorem c579 : Row.C Tryz.prog q579 := row_c k579 (by have h := g27; simp only [Bool.and_eq_true] at h; exact h.2.2.1)
theorem k608 : KSound Tryz.prog (rowsK baseK l608) := rowsK_cons k579 c579
theorem c608 : Row.C Tryz.prog q608 := row_c k608 (by have h := g28; simp only [Bool.and_eq_true] at h; exact h.1)
theorem k609 : KSound Tryz.prog (rowsK baseK l609) := rowsK_cons k608 c608
theorem c609 : Row.C Tryz.prog q609 := row_c k609 (by have h := g28; simp only [Bool.and_eq_true] at h; exact h.2.1)
theorem k610 : KSound Tryz.prog (rowsK baseK l610) := rowsK_cons k609 c609
theorem c610 : Row.C Tryz.prog q610 := row_c k610 (by have h := g28; simp only [Bool.and_eq_true] at h; exact h.2.2.1)
theorem k612 : KSound Tryz.prog (rowsK baseK l612) := rowsK_cons k610 c610
theorem c612 : Row.C Tryz.prog q612 := row_c k612 (by have h := g28; simp only [Bool.and_eq_true] at h; exact h.2.2.2.1)
theorem k614 : KSound Tryz.prog (rowsK baseK l614) := rowsK_cons k612 c612
theorem c614 : Row.C Tryz.prog q614 := row_c k614 (by have h := g29; simp only [Bool.and_eq_true] at h; exact h.1)
theorem k617 : KSound Tryz.prog (rowsK baseK l617) := rowsK_cons k614 c614
theorem c617 : Row.C Tryz.prog q617 := row_c k617 (by have h := g29; simp only [Bool.and_eq_true] at h; exact h.2.1)
theorem k618 : KSound Tryz.prog (rowsK baseK l618) := rowsK_cons k617 c617
theorem c618 : Row.C Tryz.prog q618 := row_c k618 (by have h := g29; simp only [Bool.and_eq_true] at h; exact h.2.2.1)
theorem k623 : KSound Tryz.prog (rowsK baseK l623) := rowsK_cons k618 c618
theorem c623 : Row.C Tryz.prog q623 := row_c k623 (by have h := g29; simp only [Bool.and_eq_true] at h; exact h.2.2.2.1)
theorem k624 : KSound Tryz.prog (rowsK baseK l624) := rowsK_cons k623 c623
theorem c538 : Row.C Tryz.prog q538 := row_c k624 (by have h := g30; simp only [Bool.and_eq_true] at h; exact h.1)
theorem k538x : KSound Tryz.prog (rowsK baseK l538x) := rowsK_cons k624 c538
theorem c624 : Row.C Tryz.prog q624 := row_c k538x (by have h := g31; simp only [Bool.and_eq_true] at h; exact h.1)
end Go.Proofs.YtadndmmhpkmjeaaGreatDoor
