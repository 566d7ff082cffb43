/-
  The closed runs as contracts.
-/
import Derived.Test.YtiiookmnofhlmaaGreatDoorGz0
import Derived.Test.YtiiookmnofhlmaaGreatDoorGz2
import Derived.Test.YtiiookmnofhlmaaGreatDoorGz4
import Derived.Test.YtiiookmnofhlmaaGreatDoorGz6
import Derived.Test.YtiiookmnofhlmaaGreatDoorGz8
import Derived.Test.YtiiookmnofhlmaaGreatDoorGz10
import Derived.Test.YtiiookmnofhlmaaGreatDoorGz12
import Derived.Test.YtiiookmnofhlmaaGreatDoorGz14
import Derived.Test.YtiiookmnofhlmaaGreatDoorGz16
import Derived.Test.YtiiookmnofhlmaaGreatDoorGz18

namespace Go.Proofs.YtiiookmnofhlmaaGreatDoor
open Go.RowKit Am
theorem k2 : KSound Tryz.prog (rowsK baseK l2) := baseK_ok
theorem c2 : Row.C Tryz.prog q2 := row_c k2 (by have h := g0; simp only [Bool.and_eq_true] at h; exact h.1)
theorem k3 : KSound Tryz.prog (rowsK baseK l3) := rowsK_cons k2 c2
theorem c3 : Row.C Tryz.prog q3 := row_c k3 (by have h := g0; simp only [Bool.and_eq_true] at h; exact h.2.1)
theorem k4 : KSound Tryz.prog (rowsK baseK l4) := rowsK_cons k3 c3
theorem c4 : Row.C Tryz.prog q4 := row_c k4 (by have h := g0; simp only [Bool.and_eq_true] at h; exact h.2.2.1)
theorem k7 : KSound Tryz.prog (rowsK baseK l7) := rowsK_cons k4 c4
theorem c7 : Row.C Tryz.prog q7 := row_c k7 (by have h := g0; simp only [Bool.and_eq_true] at h; exact h.2.2.2.1)
theorem k8 : KSound Tryz.prog (rowsK baseK l8) := rowsK_cons k7 c7
theorem c8 : Row.C Tryz.prog q8 := row_c k8 (by have h := g0; simp only [Bool.and_eq_true] at h; exact h.2.2.2.2.1)
theorem k24 : KSound Tryz.prog (rowsK baseK l24) := rowsK_cons k8 c8
theorem c24 : Row.C Tryz.prog q24 := row_c k24 (by have h := g0; simp only [Bool.and_eq_true] at h; exact h.2.2.2.2.2.1)
theorem k27 : KSound Tryz.prog (rowsK baseK l27) := rowsK_cons k24 c24
theorem c27 : Row.C Tryz.prog q27 := row_c k27 (by have h := g1; simp only [Bool.and_eq_true] at h; exact h.1)
theorem k34 : KSound Tryz.prog (rowsK baseK l34) := rowsK_cons k27 c27
theorem c34 : Row.C Tryz.prog q34 := row_c k34 (by have h := g1; simp only [Bool.and_eq_true] at h; exact h.2.1)
theorem k35 : KSound Tryz.prog (rowsK baseK l35) := rowsK_cons k34 c34
theorem c35 : Row.C Tryz.prog q35 := row_c k35 (by have h := g1; simp only [Bool.and_eq_true] at h; exact h.2.2.1)
theorem k36 : KSound Tryz.prog (rowsK baseK l36) := rowsK_cons k35 c35
theorem c36 : Row.C Tryz.prog q36 := row_c k36 (by have h := g1; simp only [Bool.and_eq_true] at h; exact h.2.2.2.1)
theorem k37 : KSound Tryz.prog (rowsK baseK l37) := rowsK_cons k36 c36
theorem c37 : Row.C Tryz.prog q37 := row_c k37 (by have h := g1; simp only [Bool.and_eq_true] at h; exact h.2.2.2.2.1)
theorem k38 : KSound Tryz.prog (rowsK baseK l38) := rowsK_cons k37 c37
theorem c38 : Row.C Tryz.prog q38 := row_c k38 (by have h := g1; simp only [Bool.and_eq_true] at h; exact h.2.2.2.2.2.1)
theorem k39 : KSound Tryz.prog (rowsK baseK l39) := rowsK_cons k38 c38
theorem c39 : Row.C Tryz.prog q39 := row_c k39 (by have h := g1; simp only [Bool.and_eq_true] at h; exact h.2.2.2.2.2.2.1)
theorem k40 : KSound Tryz.prog (rowsK baseK l40) := rowsK_cons k39 c39
theorem c40 : Row.C Tryz.prog q40 := row_c k40 (by have h := g1; simp only [Bool.and_eq_true] at h; exact h.2.2.2.2.2.2.2.1)
theorem k41 : KSound Tryz.prog (rowsK baseK l41) := rowsK_cons k40 c40
theorem c41 : Row.C Tryz.prog q41 := row_c k41 (by have h := g2; simp only [Bool.and_eq_true] at h; exact h.1)
theorem k78 : KSound Tryz.prog (rowsK baseK l78) := rowsK_cons k41 c41
theorem c78 : Row.C Tryz.prog q78 := row_c k78 (by have h := g3; simp only [Bool.and_eq_true] at h; exact h.1)
theorem k84 : KSound Tryz.prog (rowsK baseK l84) := rowsK_cons k78 c78
theorem c84 : Row.C Tryz.prog q84 := row_c k84 (by have h := g3; simp only [Bool.and_eq_true] at h; exact h.2.1)
theorem k85 : KSound Tryz.prog (rowsK baseK l85) := rowsK_cons k84 c84
theorem c85 : Row.C Tryz.prog q85 := row_c k85 (by have h := g3; simp only [Bool.and_eq_true] at h; exact h.2.2.1)
theorem k88 : KSound Tryz.prog (rowsK baseK l88) := rowsK_cons k85 c85
theorem c88 : Row.C Tryz.prog q88 := row_c k88 (by have h := g3; simp only [Bool.and_eq_true] at h; exact h.2.2.2.1)
theorem k96 : KSound Tryz.prog (rowsK baseK l96) := rowsK_cons k88 c88
theorem c96 : Row.C Tryz.prog q96 := row_c k96 (by have h := g3; simp only [Bool.and_eq_true] at h; exact h.2.2.2.2.1)
theorem k98 : KSound Tryz.prog (rowsK baseK l98) := rowsK_cons k96 c96
theorem c98 : Row.C Tryz.prog q98 := row_c k98 (by have h := g3; simp only [Bool.and_eq_true] at h; exact h.2.2.2.2.2.1)
theorem k101 : KSound Tryz.prog (rowsK baseK l101) := rowsK_cons k98 c98
theorem c101 : Row.C Tryz.prog q101 := row_c k101 (by have h := g4; simp only [Bool.and_eq_true] at h; exact h.1)
theorem k103 : KSound Tryz.prog (rowsK baseK l103) := rowsK_cons k101 c101
theorem c103 : Row.C Tryz.prog q103 := row_c k103 (by have h := g4; simp only [Bool.and_eq_true] at h; exact h.2.1)
theorem k105 : KSound Tryz.prog (rowsK baseK l105) := rowsK_cons k103 c103
theorem c105 : Row.C Tryz.prog q105 := row_c k105 (by have h := g4; simp only [Bool.and_eq_true] at h; exact h.2.2.1)
theorem k106 : KSound Tryz.prog (rowsK baseK l106) := rowsK_cons k105 c105
theorem c106 : Row.C Tryz.prog q106 := row_c k106 (by have h := g4; simp only [Bool.and_eq_true] at h; exact h.2.2.2.1)
theorem k107 : KSound Tryz.prog (rowsK baseK l107) := rowsK_cons k106 c106
theorem c107 : Row.C Tryz.prog q107 := row_c k107 (by have h := g4; simp only [Bool.and_eq_true] at h; exact h.2.2.2.2.1)
theorem k108 : KSound Tryz.prog (rowsK baseK l108) := rowsK_cons k107 c107
theorem c108 : Row.C Tryz.prog q108 := row_c k108 (by have h := g4; simp only [Bool.and_eq_true] at h; exact h.2.2.2.2.2.1)
theorem k109 : KSound Tryz.prog (rowsK baseK l109) := rowsK_cons k108 c108
theorem c109 : Row.C Tryz.prog q109 := row_c k109 (by have h := g4; simp only [Bool.and_eq_true] at h; exact h.2.2.2.2.2.2.1)
theorem k111 : KSound Tryz.prog (rowsK baseK l111) := rowsK_cons k109 c109
theorem c111 : Row.C Tryz.prog q111 := row_c k111 (by have h := g4; simp only [Bool.and_eq_true] at h; exact h.2.2.2.2.2.2.2.1)
theorem k114 : KSound Tryz.prog (rowsK baseK l114) := rowsK_cons k111 c111
theorem c114 : Row.C Tryz.prog q114 := row_c k114 (by have h := g4; simp only [Bool.and_eq_true] at h; exact h.2.2.2.2.2.2.2.2.1)
theorem k119 : KSound Tryz.prog (rowsK baseK l119) := rowsK_cons k114 c114
theorem c119 : Row.C Tryz.prog q119 := row_c k119 (by have h := g4; simp only [Bool.and_eq_true] at h; exact h.2.2.2.2.2.2.2.2.2.1)
theorem k135 : KSound Tryz.prog (rowsK baseK l135) := rowsK_cons k119 c119
theorem c135 : Row.C Tryz.prog q135 := row_c k135 (by have h := g5; simp only [Bool.and_eq_true] at h; exact h.1)
theorem k137 : KSound Tryz.prog (rowsK baseK l137) := rowsK_cons k135 c135
theorem c137 : Row.C Tryz.prog q137 := row_c k137 (by have h := g5; simp only [Bool.and_eq_true] at h; exact h.2.1)
theorem k141 : KSound Tryz.prog (rowsK baseK l141) := rowsK_cons k137 c137
theorem c141 : Row.C Tryz.prog q141 := row_c k141 (by have h := g5; simp only [Bool.and_eq_true] at h; exact h.2.2.1)
theorem k142 : KSound Tryz.prog (rowsK baseK l142) := rowsK_cons k141 c141
theorem c142 : Row.C Tryz.prog q142 := row_c k142 (by have h := g5; simp only [Bool.and_eq_true] at h; exact h.2.2.2.1)
theorem k143 : KSound Tryz.prog (rowsK baseK l143) := rowsK_cons k142 c142
theorem c143 : Row.C Tryz.prog q143 := row_c k143 (by have h := g5; simp only [Bool.and_eq_true] at h; exact h.2.2.2.2.1)
theorem k144 : KSound Tryz.prog (rowsK baseK l144) := rowsK_cons k143 c143
theorem c144 : Row.C Tryz.prog q144 := row_c k144 (by have h := g6; simp only [Bool.and_eq_true] at h; exact h.1)
theorem k145 : KSound Tryz.prog (rowsK baseK l145) := rowsK_cons k144 c144
theorem c145 : Row.C Tryz.prog q145 := row_c k145 (by have h := g6; simp only [Bool.and_eq_true] at h; exact h.2.1)
theorem k146 : KSound Tryz.prog (rowsK baseK l146) := rowsK_cons k145 c145
theorem c146 : Row.C Tryz.prog q146 := row_c k146 (by have h := g6; simp only [Bool.and_eq_true] at h; exact h.2.2.1)
theorem k149 : KSound Tryz.prog (rowsK baseK l149) := rowsK_cons k146 c146
theorem c149 : Row.C Tryz.prog q149 := row_c k149 (by have h := g6; simp only [Bool.and_eq_true] at h; exact h.2.2.2.1)
theorem k153 : KSound Tryz.prog (rowsK baseK l153) := rowsK_cons k149 c149
theorem c153 : Row.C Tryz.prog q153 := row_c k153 (by have h := g6; simp only [Bool.and_eq_true] at h; exact h.2.2.2.2.1)
theorem k155 : KSound Tryz.prog (rowsK baseK l155) := rowsK_cons k153 c153
theorem c155 : Row.C Tryz.prog q155 := row_c k155 (by have h := g6; simp only [Bool.and_eq_true] at h; exact h.2.2.2.2.2.1)
theorem k189 : KSound Tryz.prog (rowsK baseK l189) := rowsK_cons k155 c155
theorem c189 : Row.C Tryz.prog q189 := row_c k189 (by have h := g7; simp only [Bool.and_eq_true] at h; exact h.1)
theorem k215 : KSound Tryz.prog (rowsK baseK l215) := rowsK_cons k189 c189
theorem c215 : Row.C Tryz.prog q215 := row_c k215 (by have h := g8; simp only [Bool.and_eq_true] at h; exact h.1)
theorem k216 : KSound Tryz.prog (rowsK baseK l216) := rowsK_cons k215 c215
theorem c216 : Row.C Tryz.prog q216 := row_c k216 (by have h := g8; simp only [Bool.and_eq_true] at h; exact h.2.1)
theorem k218 : KSound Tryz.prog (rowsK baseK l218) := rowsK_cons k216 c216
theorem c218 : Row.C Tryz.prog q218 := row_c k218 (by have h := g8; simp only [Bool.and_eq_true] at h; exact h.2.2.1)
theorem k219 : KSound Tryz.prog (rowsK baseK l219) := rowsK_cons k218 c218
theorem c219 : Row.C Tryz.prog q219 := row_c k219 (by have h := g8; simp only [Bool.and_eq_true] at h; exact h.2.2.2.1)
theorem k220 : KSound Tryz.prog (rowsK baseK l220) := rowsK_cons k219 c219
theorem c220 : Row.C Tryz.prog q220 := row_c k220 (by have h := g8; simp only [Bool.and_eq_true] at h; exact h.2.2.2.2.1)
theorem k223 : KSound Tryz.prog (rowsK baseK l223) := rowsK_cons k220 c220
theorem c223 : Row.C Tryz.prog q223 := row_c k223 (by have h := g8; simp only [Bool.and_eq_true] at h; exact h.2.2.2.2.2.1)
theorem k226 : KSound Tryz.prog (rowsK baseK l226) := rowsK_cons k223 c223
theorem c226 : Row.C Tryz.prog q226 := row_c k226 (by have h := g8; simp only [Bool.and_eq_true] at h; exact h.2.2.2.2.2.2.1)
theorem k227 : KSound Tryz.prog (rowsK baseK l227) := rowsK_cons k226 c226
theorem c227 : Row.C Tryz.prog q227 := row_c k227 (by have h := g8; simp only [Bool.and_eq_true] at h; exact h.2.2.2.2.2.2.2.1)
theorem k230 : KSound Tryz.prog (rowsK baseK l230) := rowsK_cons k227 c227
theorem c230 : Row.C Tryz.prog q230 := row_c k230 (by have h := g8; simp only [Bool.and_eq_true] at h; exact h.2.2.2.2.2.2.2.2.1)
theorem k240 : KSound Tryz.prog (rowsK baseK l240) := rowsK_cons k230 c230
theorem c240 : Row.C Tryz.prog q240 := row_c k240 (by have h := g9; simp only [Bool.and_eq_true] at h; exact h.1)
theorem k241 : KSound Tryz.prog (rowsK baseK l241) := rowsK_cons k240 c240
theorem c241 : Row.C Tryz.prog q241 := row_c k241 (by have h := g10; simp only [Bool.and_eq_true] at h; exact h.1)
theorem k242 : KSound Tryz.prog (rowsK baseK l242) := rowsK_cons k241 c241
theorem c242 : Row.C Tryz.prog q242 := row_c k242 (by have h := g10; simp only [Bool.and_eq_true] at h; exact h.2.1)
theorem k243 : KSound Tryz.prog (rowsK baseK l243) := rowsK_cons k242 c242
theorem c243 : Row.C Tryz.prog q243 := row_c k243 (by have h := g10; simp only [Bool.and_eq_true] at h; exact h.2.2.1)
theorem k244 : KSound Tryz.prog (rowsK baseK l244) := rowsK_cons k243 c243
theorem c244 : Row.C Tryz.prog q244 := row_c k244 (by have h := g10; simp only [Bool.and_eq_true] at h; exact h.2.2.2.1)
theorem k245 : KSound Tryz.prog (rowsK baseK l245) := rowsK_cons k244 c244
theorem c245 : Row.C Tryz.prog q245 := row_c k245 (by have h := g10; simp only [Bool.and_eq_true] at h; exact h.2.2.2.2.1)
theorem k246 : KSound Tryz.prog (rowsK baseK l246) := rowsK_cons k245 c245
theorem c246 : Row.C Tryz.prog q246 := row_c k246 (by have h := g10; simp only [Bool.and_eq_true] at h; exact h.2.2.2.2.2.1)
theorem k249 : KSound Tryz.prog (rowsK baseK l249) := rowsK_cons k246 c246
theorem c249 : Row.C Tryz.prog q249 := row_c k249 (by have h := g10; simp only [Bool.and_eq_true] at h; exact h.2.2.2.2.2.2.1)
theorem k251 : KSound Tryz.prog (rowsK baseK l251) := rowsK_cons k249 c249
theorem c251 : Row.C Tryz.prog q251 := row_c k251 (by have h := g10; simp only [Bool.and_eq_true] at h; exact h.2.2.2.2.2.2.2.1)
theorem k252 : KSound Tryz.prog (rowsK baseK l252) := rowsK_cons k251 c251
theorem c252 : Row.C Tryz.prog q252 := row_c k252 (by have h := g10; simp only [Bool.and_eq_true] at h; exact h.2.2.2.2.2.2.2.2.1)
theorem k253 : KSound Tryz.prog (rowsK baseK l253) := rowsK_cons k252 c252
theorem c253 : Row.C Tryz.prog q253 := row_c k253 (by have h := g10; simp only [Bool.and_eq_true] at h; exact h.2.2.2.2.2.2.2.2.2.1)
theorem k255 : KSound Tryz.prog (rowsK baseK l255) := rowsK_cons k253 c253
theorem c255 : Row.C Tryz.prog q255 := row_c k255 (by have h := g10; simp only [Bool.and_eq_true] at h; exact h.2.2.2.2.2.2.2.2.2.2.1)
theorem k258 : KSound Tryz.prog (rowsK baseK l258) := rowsK_cons k255 c255
theorem c258 : Row.C Tryz.prog q258 := row_c k258 (by have h := g10; simp only [Bool.and_eq_true] at h; exact h.2.2.2.2.2.2.2.2.2.2.2.1)
theorem k261 : KSound Tryz.prog (rowsK baseK l261) := rowsK_cons k258 c258
theorem c261 : Row.C Tryz.prog q261 := row_c k261 (by have h := g10; simp only [Bool.and_eq_true] at h; exact h.2.2.2.2.2.2.2.2.2.2.2.2.1)
theorem k268 : KSound Tryz.prog (rowsK baseK l268) := rowsK_cons k261 c261
theorem c268 : Row.C Tryz.prog q268 := row_c k268 (by have h := g10; simp only [Bool.and_eq_true] at h; exact h.2.2.2.2.2.2.2.2.2.2.2.2.2.1)
theorem k269 : KSound Tryz.prog (rowsK baseK l269) := rowsK_cons k268 c268
theorem c269 : Row.C Tryz.prog q269 := row_c k269 (by have h := g11; simp only [Bool.and_eq_true] at h; exact h.1)
theorem k277 : KSound Tryz.prog (rowsK baseK l277) := rowsK_cons k269 c269
theorem c277 : Row.C Tryz.prog q277 := row_c k277 (by have h := g11; simp only [Bool.and_eq_true] at h; exact h.2.1)
theorem k297 : KSound Tryz.prog (rowsK baseK l297) := rowsK_cons k277 c277
theorem c297 : Row.C Tryz.prog q297 := row_c k297 (by have h := g12; simp only [Bool.and_eq_true] at h; exact h.1)
theorem k306 : KSound Tryz.prog (rowsK baseK l306) := rowsK_cons k297 c297
theorem c306 : Row.C Tryz.prog q306 := row_c k306 (by have h := g12; simp only [Bool.and_eq_true] at h; exact h.2.1)
theorem k311 : KSound Tryz.prog (rowsK baseK l311) := rowsK_cons k306 c306
theorem c311 : Row.C Tryz.prog q311 := row_c k311 (by have h := g12; simp only [Bool.and_eq_true] at h; exact h.2.2.1)
theorem k318 : KSound Tryz.prog (rowsK baseK l318) := rowsK_cons k311 c311
theorem c318 : Row.C Tryz.prog q318 := row_c k318 (by have h := g13; simp only [Bool.and_eq_true] at h; exact h.1)
theorem k319 : KSound Tryz.prog (rowsK baseK l319) := rowsK_cons k318 c318
theorem c319 : Row.C Tryz.prog q319 := row_c k319 (by have h := g13; simp only [Bool.and_eq_true] at h; exact h.2.1)
theorem k322 : KSound Tryz.prog (rowsK baseK l322) := rowsK_cons k319 c319
theorem c322 : Row.C Tryz.prog q322 := row_c k322 (by have h := g13; simp only [Bool.and_eq_true] at h; exact h.2.2.1)
theorem k325 : KSound Tryz.prog (rowsK baseK l325) := rowsK_cons k322 c322
theorem c325 : Row.C Tryz.prog q325 := row_c k325 (by have h := g14; simp only [Bool.and_eq_true] at h; exact h.1)
theorem k328 : KSound Tryz.prog (rowsK baseK l328) := rowsK_cons k325 c325
theorem c328 : Row.C Tryz.prog q328 := row_c k328 (by have h := g14; simp only [Bool.and_eq_true] at h; exact h.2.1)
theorem k329 : KSound Tryz.prog (rowsK baseK l329) := rowsK_cons k328 c328
theorem c329 : Row.C Tryz.prog q329 := row_c k329 (by have h := g14; simp only [Bool.and_eq_true] at h; exact h.2.2.1)
theorem k343 : KSound Tryz.prog (rowsK baseK l343) := rowsK_cons k329 c329
theorem c343 : Row.C Tryz.prog q343 := row_c k343 (by have h := g14; simp only [Bool.and_eq_true] at h; exact h.2.2.2.1)
theorem k347 : KSound Tryz.prog (rowsK baseK l347) := rowsK_cons k343 c343
theorem c347 : Row.C Tryz.prog q347 := row_c k347 (by have h := g15; simp only [Bool.and_eq_true] at h; exact h.1)
theorem k353 : KSound Tryz.prog (rowsK baseK l353) := rowsK_cons k347 c347
theorem c353 : Row.C Tryz.prog q353 := row_c k353 (by have h := g15; simp only [Bool.and_eq_true] at h; exact h.2.1)
theorem k357 : KSound Tryz.prog (rowsK baseK l357) := rowsK_cons k353 c353
theorem c357 : Row.C Tryz.prog q357 := row_c k357 (by have h := g15; simp only [Bool.and_eq_true] at h; exact h.2.2.1)
theorem k358 : KSound Tryz.prog (rowsK baseK l358) := rowsK_cons k357 c357
theorem c358 : Row.C Tryz.prog q358 := row_c k358 (by have h := g15; simp only [Bool.and_eq_true] at h; exact h.2.2.2.1)
theorem k359 : KSound Tryz.prog (rowsK baseK l359) := rowsK_cons k358 c358
theorem c359 : Row.C Tryz.prog q359 := row_c k359 (by have h := g15; simp only [Bool.and_eq_true] at h; exact h.2.2.2.2.1)
theorem k362 : KSound Tryz.prog (rowsK baseK l362) := rowsK_cons k359 c359
theorem c362 : Row.C Tryz.prog q362 := row_c k362 (by have h := g16; simp only [Bool.and_eq_true] at h; exact h.1)
theorem k368 : KSound Tryz.prog (rowsK baseK l368) := rowsK_cons k362 c362
theorem c368 : Row.C Tryz.prog q368 := row_c k368 (by have h := g16; simp only [Bool.and_eq_true] at h; exact h.2.1)
theorem k373 : KSound Tryz.prog (rowsK baseK l373) := rowsK_cons k368 c368
theorem c373 : Row.C Tryz.prog q373 := row_c k373 (by have h := g16; simp only [Bool.and_eq_true] at h; exact h.2.2.1)
theorem k374 : KSound Tryz.prog (rowsK baseK l374) := rowsK_cons k373 c373
theorem c374 : Row.C Tryz.prog q374 := row_c k374 (by have h := g16; simp only [Bool.and_eq_true] at h; exact h.2.2.2.1)
theorem k378 : KSound Tryz.prog (rowsK baseK l378) := rowsK_cons k374 c374
theorem c378 : Row.C Tryz.prog q378 := row_c k378 (by have h := g17; simp only [Bool.and_eq_true] at h; exact h.1)
theorem k381 : KSound Tryz.prog (rowsK baseK l381) := rowsK_cons k378 c378
theorem c381 : Row.C Tryz.prog q381 := row_c k381 (by have h := g17; simp only [Bool.and_eq_true] at h; exact h.2.1)
theorem k384 : KSound Tryz.prog (rowsK baseK l384) := rowsK_cons k381 c381
theorem c384 : Row.C Tryz.prog q384 := row_c k384 (by have h := g17; simp only [Bool.and_eq_true] at h; exact h.2.2.1)
theorem k385 : KSound Tryz.prog (rowsK baseK l385) := rowsK_cons k384 c384
theorem c385 : Row.C Tryz.prog q385 := row_c k385 (by have h := g18; simp only [Bool.and_eq_true] at h; exact h.1)
end Go.Proofs.YtiiookmnofhlmaaGreatDoor
