/-
  The closed runs as contracts.
-/
import Derived.Test.YticmnccpdpdaiaaGreatDoorGz0
import Derived.Test.YticmnccpdpdaiaaGreatDoorGz2
import Derived.Test.YticmnccpdpdaiaaGreatDoorGz4
import Derived.Test.YticmnccpdpdaiaaGreatDoorGz6
import Derived.Test.YticmnccpdpdaiaaGreatDoorGz8
import Derived.Test.YticmnccpdpdaiaaGreatDoorGz10
import Derived.Test.YticmnccpdpdaiaaGreatDoorGz12
import Derived.Test.YticmnccpdpdaiaaGreatDoorGz14
import Derived.Test.YticmnccpdpdaiaaGreatDoorGz16
import Derived.Test.YticmnccpdpdaiaaGreatDoorGz18
import Derived.Test.YticmnccpdpdaiaaGreatDoorGz20
import Derived.Test.YticmnccpdpdaiaaGreatDoorGz22
import Derived.Test.YticmnccpdpdaiaaGreatDoorGz24
import Derived.Test.YticmnccpdpdaiaaGreatDoorGz26
import Derived.Test.YticmnccpdpdaiaaGreatDoorGz28

namespace Go.Proofs.YticmnccpdpdaiaaGreatDoor
open Go.RowKit Am
theorem k2 : KSound Tryz.prog (rowsK baseK l2) := baseK_ok
theorem c2 : Row.C Tryz.prog q2 := row_c k2 (by have h := g0; simp only [Bool.and_eq_true] at h; exact h.1)
theorem k7 : KSound Tryz.prog (rowsK baseK l7) := rowsK_cons k2 c2
theorem c7 : Row.C Tryz.prog q7 := row_c k7 (by have h := g0; simp only [Bool.and_eq_true] at h; exact h.2.1)
theorem k24 : KSound Tryz.prog (rowsK baseK l24) := rowsK_cons k7 c7
theorem c24 : Row.C Tryz.prog q24 := row_c k24 (by have h := g0; simp only [Bool.and_eq_true] at h; exact h.2.2.1)
theorem k34 : KSound Tryz.prog (rowsK baseK l34) := rowsK_cons k24 c24
theorem c34 : Row.C Tryz.prog q34 := row_c k34 (by have h := g0; simp only [Bool.and_eq_true] at h; exact h.2.2.2.1)
theorem k35 : KSound Tryz.prog (rowsK baseK l35) := rowsK_cons k34 c34
theorem c35 : Row.C Tryz.prog q35 := row_c k35 (by have h := g0; simp only [Bool.and_eq_true] at h; exact h.2.2.2.2.1)
theorem k36 : KSound Tryz.prog (rowsK baseK l36) := rowsK_cons k35 c35
theorem c36 : Row.C Tryz.prog q36 := row_c k36 (by have h := g1; simp only [Bool.and_eq_true] at h; exact h.1)
theorem k37 : KSound Tryz.prog (rowsK baseK l37) := rowsK_cons k36 c36
theorem c37 : Row.C Tryz.prog q37 := row_c k37 (by have h := g1; simp only [Bool.and_eq_true] at h; exact h.2.1)
theorem k38 : KSound Tryz.prog (rowsK baseK l38) := rowsK_cons k37 c37
theorem c38 : Row.C Tryz.prog q38 := row_c k38 (by have h := g1; simp only [Bool.and_eq_true] at h; exact h.2.2.1)
theorem k39 : KSound Tryz.prog (rowsK baseK l39) := rowsK_cons k38 c38
theorem c39 : Row.C Tryz.prog q39 := row_c k39 (by have h := g1; simp only [Bool.and_eq_true] at h; exact h.2.2.2.1)
theorem k40 : KSound Tryz.prog (rowsK baseK l40) := rowsK_cons k39 c39
theorem c40 : Row.C Tryz.prog q40 := row_c k40 (by have h := g1; simp only [Bool.and_eq_true] at h; exact h.2.2.2.2.1)
theorem k41 : KSound Tryz.prog (rowsK baseK l41) := rowsK_cons k40 c40
theorem c41 : Row.C Tryz.prog q41 := row_c k41 (by have h := g2; simp only [Bool.and_eq_true] at h; exact h.1)
theorem k78 : KSound Tryz.prog (rowsK baseK l78) := rowsK_cons k41 c41
theorem c78 : Row.C Tryz.prog q78 := row_c k78 (by have h := g3; simp only [Bool.and_eq_true] at h; exact h.1)
theorem k83 : KSound Tryz.prog (rowsK baseK l83) := rowsK_cons k78 c78
theorem c83 : Row.C Tryz.prog q83 := row_c k83 (by have h := g3; simp only [Bool.and_eq_true] at h; exact h.2.1)
theorem k84 : KSound Tryz.prog (rowsK baseK l84) := rowsK_cons k83 c83
theorem c84 : Row.C Tryz.prog q84 := row_c k84 (by have h := g3; simp only [Bool.and_eq_true] at h; exact h.2.2.1)
theorem k85 : KSound Tryz.prog (rowsK baseK l85) := rowsK_cons k84 c84
theorem c85 : Row.C Tryz.prog q85 := row_c k85 (by have h := g3; simp only [Bool.and_eq_true] at h; exact h.2.2.2.1)
theorem k88 : KSound Tryz.prog (rowsK baseK l88) := rowsK_cons k85 c85
theorem c88 : Row.C Tryz.prog q88 := row_c k88 (by have h := g3; simp only [Bool.and_eq_true] at h; exact h.2.2.2.2.1)
theorem k89 : KSound Tryz.prog (rowsK baseK l89) := rowsK_cons k88 c88
theorem c89 : Row.C Tryz.prog q89 := row_c k89 (by have h := g3; simp only [Bool.and_eq_true] at h; exact h.2.2.2.2.2.1)
theorem k96 : KSound Tryz.prog (rowsK baseK l96) := rowsK_cons k89 c89
theorem c96 : Row.C Tryz.prog q96 := row_c k96 (by have h := g3; simp only [Bool.and_eq_true] at h; exact h.2.2.2.2.2.2.1)
theorem k98 : KSound Tryz.prog (rowsK baseK l98) := rowsK_cons k96 c96
theorem c98 : Row.C Tryz.prog q98 := row_c k98 (by have h := g3; simp only [Bool.and_eq_true] at h; exact h.2.2.2.2.2.2.2.1)
theorem k101 : KSound Tryz.prog (rowsK baseK l101) := rowsK_cons k98 c98
theorem c101 : Row.C Tryz.prog q101 := row_c k101 (by have h := g4; simp only [Bool.and_eq_true] at h; exact h.1)
theorem k103 : KSound Tryz.prog (rowsK baseK l103) := rowsK_cons k101 c101
theorem c103 : Row.C Tryz.prog q103 := row_c k103 (by have h := g4; simp only [Bool.and_eq_true] at h; exact h.2.1)
theorem k106 : KSound Tryz.prog (rowsK baseK l106) := rowsK_cons k103 c103
theorem c106 : Row.C Tryz.prog q106 := row_c k106 (by have h := g4; simp only [Bool.and_eq_true] at h; exact h.2.2.1)
theorem k109 : KSound Tryz.prog (rowsK baseK l109) := rowsK_cons k106 c106
theorem c109 : Row.C Tryz.prog q109 := row_c k109 (by have h := g4; simp only [Bool.and_eq_true] at h; exact h.2.2.2.1)
theorem k111 : KSound Tryz.prog (rowsK baseK l111) := rowsK_cons k109 c109
theorem c111 : Row.C Tryz.prog q111 := row_c k111 (by have h := g4; simp only [Bool.and_eq_true] at h; exact h.2.2.2.2.1)
theorem k119 : KSound Tryz.prog (rowsK baseK l119) := rowsK_cons k111 c111
theorem c119 : Row.C Tryz.prog q119 := row_c k119 (by have h := g4; simp only [Bool.and_eq_true] at h; exact h.2.2.2.2.2.1)
theorem k140 : KSound Tryz.prog (rowsK baseK l140) := rowsK_cons k119 c119
theorem c140 : Row.C Tryz.prog q140 := row_c k140 (by have h := g4; simp only [Bool.and_eq_true] at h; exact h.2.2.2.2.2.2.1)
theorem k146 : KSound Tryz.prog (rowsK baseK l146) := rowsK_cons k140 c140
theorem c146 : Row.C Tryz.prog q146 := row_c k146 (by have h := g5; simp only [Bool.and_eq_true] at h; exact h.1)
theorem k147 : KSound Tryz.prog (rowsK baseK l147) := rowsK_cons k146 c146
theorem c147 : Row.C Tryz.prog q147 := row_c k147 (by have h := g5; simp only [Bool.and_eq_true] at h; exact h.2.1)
theorem k148 : KSound Tryz.prog (rowsK baseK l148) := rowsK_cons k147 c147
theorem c148 : Row.C Tryz.prog q148 := row_c k148 (by have h := g5; simp only [Bool.and_eq_true] at h; exact h.2.2.1)
theorem k149 : KSound Tryz.prog (rowsK baseK l149) := rowsK_cons k148 c148
theorem c149 : Row.C Tryz.prog q149 := row_c k149 (by have h := g5; simp only [Bool.and_eq_true] at h; exact h.2.2.2.1)
theorem k151 : KSound Tryz.prog (rowsK baseK l151) := rowsK_cons k149 c149
theorem c151 : Row.C Tryz.prog q151 := row_c k151 (by have h := g5; simp only [Bool.and_eq_true] at h; exact h.2.2.2.2.1)
theorem k154 : KSound Tryz.prog (rowsK baseK l154) := rowsK_cons k151 c151
theorem c154 : Row.C Tryz.prog q154 := row_c k154 (by have h := g5; simp only [Bool.and_eq_true] at h; exact h.2.2.2.2.2.1)
theorem k158 : KSound Tryz.prog (rowsK baseK l158) := rowsK_cons k154 c154
theorem c158 : Row.C Tryz.prog q158 := row_c k158 (by have h := g5; simp only [Bool.and_eq_true] at h; exact h.2.2.2.2.2.2.1)
theorem k160 : KSound Tryz.prog (rowsK baseK l160) := rowsK_cons k158 c158
theorem c160 : Row.C Tryz.prog q160 := row_c k160 (by have h := g5; simp only [Bool.and_eq_true] at h; exact h.2.2.2.2.2.2.2.1)
theorem k166 : KSound Tryz.prog (rowsK baseK l166) := rowsK_cons k160 c160
theorem c166 : Row.C Tryz.prog q166 := row_c k166 (by have h := g5; simp only [Bool.and_eq_true] at h; exact h.2.2.2.2.2.2.2.2.1)
theorem k201 : KSound Tryz.prog (rowsK baseK l201) := rowsK_cons k166 c166
theorem c201 : Row.C Tryz.prog q201 := row_c k201 (by have h := g6; simp only [Bool.and_eq_true] at h; exact h.1)
theorem k203 : KSound Tryz.prog (rowsK baseK l203) := rowsK_cons k201 c201
theorem c203 : Row.C Tryz.prog q203 := row_c k203 (by have h := g6; simp only [Bool.and_eq_true] at h; exact h.2.1)
theorem k205 : KSound Tryz.prog (rowsK baseK l205) := rowsK_cons k203 c203
theorem c205 : Row.C Tryz.prog q205 := row_c k205 (by have h := g6; simp only [Bool.and_eq_true] at h; exact h.2.2.1)
theorem k207 : KSound Tryz.prog (rowsK baseK l207) := rowsK_cons k205 c205
theorem c207 : Row.C Tryz.prog q207 := row_c k207 (by have h := g6; simp only [Bool.and_eq_true] at h; exact h.2.2.2.1)
theorem k239 : KSound Tryz.prog (rowsK baseK l239) := rowsK_cons k207 c207
theorem c239 : Row.C Tryz.prog q239 := row_c k239 (by have h := g7; simp only [Bool.and_eq_true] at h; exact h.1)
theorem k240 : KSound Tryz.prog (rowsK baseK l240) := rowsK_cons k239 c239
theorem c240 : Row.C Tryz.prog q240 := row_c k240 (by have h := g7; simp only [Bool.and_eq_true] at h; exact h.2.1)
theorem k244 : KSound Tryz.prog (rowsK baseK l244) := rowsK_cons k240 c240
theorem c244 : Row.C Tryz.prog q244 := row_c k244 (by have h := g7; simp only [Bool.and_eq_true] at h; exact h.2.2.1)
theorem k250 : KSound Tryz.prog (rowsK baseK l250) := rowsK_cons k244 c244
theorem c250 : Row.C Tryz.prog q250 := row_c k250 (by have h := g7; simp only [Bool.and_eq_true] at h; exact h.2.2.2.1)
theorem k251 : KSound Tryz.prog (rowsK baseK l251) := rowsK_cons k250 c250
theorem c251 : Row.C Tryz.prog q251 := row_c k251 (by have h := g7; simp only [Bool.and_eq_true] at h; exact h.2.2.2.2.1)
theorem k254 : KSound Tryz.prog (rowsK baseK l254) := rowsK_cons k251 c251
theorem c254 : Row.C Tryz.prog q254 := row_c k254 (by have h := g8; simp only [Bool.and_eq_true] at h; exact h.1)
theorem k262 : KSound Tryz.prog (rowsK baseK l262) := rowsK_cons k254 c254
theorem c262 : Row.C Tryz.prog q262 := row_c k262 (by have h := g8; simp only [Bool.and_eq_true] at h; exact h.2.1)
theorem k263 : KSound Tryz.prog (rowsK baseK l263) := rowsK_cons k262 c262
theorem c263 : Row.C Tryz.prog q263 := row_c k263 (by have h := g8; simp only [Bool.and_eq_true] at h; exact h.2.2.1)
theorem k264 : KSound Tryz.prog (rowsK baseK l264) := rowsK_cons k263 c263
theorem c264 : Row.C Tryz.prog q264 := row_c k264 (by have h := g8; simp only [Bool.and_eq_true] at h; exact h.2.2.2.1)
theorem k267 : KSound Tryz.prog (rowsK baseK l267) := rowsK_cons k264 c264
theorem c267 : Row.C Tryz.prog q267 := row_c k267 (by have h := g8; simp only [Bool.and_eq_true] at h; exact h.2.2.2.2.1)
theorem k273 : KSound Tryz.prog (rowsK baseK l273) := rowsK_cons k267 c267
theorem c273 : Row.C Tryz.prog q273 := row_c k273 (by have h := g8; simp only [Bool.and_eq_true] at h; exact h.2.2.2.2.2.1)
theorem k275 : KSound Tryz.prog (rowsK baseK l275) := rowsK_cons k273 c273
theorem c275 : Row.C Tryz.prog q275 := row_c k275 (by have h := g8; simp only [Bool.and_eq_true] at h; exact h.2.2.2.2.2.2.1)
theorem k280 : KSound Tryz.prog (rowsK baseK l280) := rowsK_cons k275 c275
theorem c280 : Row.C Tryz.prog q280 := row_c k280 (by have h := g8; simp only [Bool.and_eq_true] at h; exact h.2.2.2.2.2.2.2.1)
theorem k286 : KSound Tryz.prog (rowsK baseK l286) := rowsK_cons k280 c280
theorem c286 : Row.C Tryz.prog q286 := row_c k286 (by have h := g9; simp only [Bool.and_eq_true] at h; exact h.1)
theorem k287 : KSound Tryz.prog (rowsK baseK l287) := rowsK_cons k286 c286
theorem c287 : Row.C Tryz.prog q287 := row_c k287 (by have h := g10; simp only [Bool.and_eq_true] at h; exact h.1)
theorem k297 : KSound Tryz.prog (rowsK baseK l297) := rowsK_cons k287 c287
theorem c297 : Row.C Tryz.prog q297 := row_c k297 (by have h := g11; simp only [Bool.and_eq_true] at h; exact h.1)
theorem k303 : KSound Tryz.prog (rowsK baseK l303) := rowsK_cons k297 c297
theorem c303 : Row.C Tryz.prog q303 := row_c k303 (by have h := g11; simp only [Bool.and_eq_true] at h; exact h.2.1)
theorem k308 : KSound Tryz.prog (rowsK baseK l308) := rowsK_cons k303 c303
theorem c308 : Row.C Tryz.prog q308 := row_c k308 (by have h := g11; simp only [Bool.and_eq_true] at h; exact h.2.2.1)
theorem k331 : KSound Tryz.prog (rowsK baseK l331) := rowsK_cons k308 c308
theorem c331 : Row.C Tryz.prog q331 := row_c k331 (by have h := g11; simp only [Bool.and_eq_true] at h; exact h.2.2.2.1)
theorem k333 : KSound Tryz.prog (rowsK baseK l333) := rowsK_cons k331 c331
theorem c333 : Row.C Tryz.prog q333 := row_c k333 (by have h := g11; simp only [Bool.and_eq_true] at h; exact h.2.2.2.2.1)
theorem k335 : KSound Tryz.prog (rowsK baseK l335) := rowsK_cons k333 c333
theorem c335 : Row.C Tryz.prog q335 := row_c k335 (by have h := g11; simp only [Bool.and_eq_true] at h; exact h.2.2.2.2.2.1)
theorem k339 : KSound Tryz.prog (rowsK baseK l339) := rowsK_cons k335 c335
theorem c339 : Row.C Tryz.prog q339 := row_c k339 (by have h := g11; simp only [Bool.and_eq_true] at h; exact h.2.2.2.2.2.2.1)
theorem k357 : KSound Tryz.prog (rowsK baseK l357) := rowsK_cons k339 c339
theorem c357 : Row.C Tryz.prog q357 := row_c k357 (by have h := g12; simp only [Bool.and_eq_true] at h; exact h.1)
theorem k360 : KSound Tryz.prog (rowsK baseK l360) := rowsK_cons k357 c357
theorem c360 : Row.C Tryz.prog q360 := row_c k360 (by have h := g13; simp only [Bool.and_eq_true] at h; exact h.1)
theorem k363 : KSound Tryz.prog (rowsK baseK l363) := rowsK_cons k360 c360
theorem c363 : Row.C Tryz.prog q363 := row_c k363 (by have h := g13; simp only [Bool.and_eq_true] at h; exact h.2.1)
theorem k368 : KSound Tryz.prog (rowsK baseK l368) := rowsK_cons k363 c363
theorem c368 : Row.C Tryz.prog q368 := row_c k368 (by have h := g13; simp only [Bool.and_eq_true] at h; exact h.2.2.1)
theorem k371 : KSound Tryz.prog (rowsK baseK l371) := rowsK_cons k368 c368
theorem c371 : Row.C Tryz.prog q371 := row_c k371 (by have h := g13; simp only [Bool.and_eq_true] at h; exact h.2.2.2.1)
theorem k372 : KSound Tryz.prog (rowsK baseK l372) := rowsK_cons k371 c371
theorem c372 : Row.C Tryz.prog q372 := row_c k372 (by have h := g13; simp only [Bool.and_eq_true] at h; exact h.2.2.2.2.1)
theorem k376 : KSound Tryz.prog (rowsK baseK l376) := rowsK_cons k372 c372
theorem c376 : Row.C Tryz.prog q376 := row_c k376 (by have h := g13; simp only [Bool.and_eq_true] at h; exact h.2.2.2.2.2.1)
theorem k377 : KSound Tryz.prog (rowsK baseK l377) := rowsK_cons k376 c376
theorem c377 : Row.C Tryz.prog q377 := row_c k377 (by have h := g13; simp only [Bool.and_eq_true] at h; exact h.2.2.2.2.2.2.1)
theorem k382 : KSound Tryz.prog (rowsK baseK l382) := rowsK_cons k377 c377
theorem c382 : Row.C Tryz.prog q382 := row_c k382 (by have h := g13; simp only [Bool.and_eq_true] at h; exact h.2.2.2.2.2.2.2.1)
theorem k390 : KSound Tryz.prog (rowsK baseK l390) := rowsK_cons k382 c382
theorem c390 : Row.C Tryz.prog q390 := row_c k390 (by have h := g13; simp only [Bool.and_eq_true] at h; exact h.2.2.2.2.2.2.2.2.1)
theorem k394 : KSound Tryz.prog (rowsK baseK l394) := rowsK_cons k390 c390
theorem c394 : Row.C Tryz.prog q394 := row_c k394 (by have h := g13; simp only [Bool.and_eq_true] at h; exact h.2.2.2.2.2.2.2.2.2.1)
theorem k403 : KSound Tryz.prog (rowsK baseK l403) := rowsK_cons k394 c394
theorem c403 : Row.C Tryz.prog q403 := row_c k403 (by have h := g14; simp only [Bool.and_eq_true] at h; exact h.1)
theorem k412 : KSound Tryz.prog (rowsK baseK l412) := rowsK_cons k403 c403
theorem c412 : Row.C Tryz.prog q412 := row_c k412 (by have h := g15; simp only [Bool.and_eq_true] at h; exact h.1)
theorem k413 : KSound Tryz.prog (rowsK baseK l413) := rowsK_cons k412 c412
theorem c413 : Row.C Tryz.prog q413 := row_c k413 (by have h := g15; simp only [Bool.and_eq_true] at h; exact h.2.1)
theorem k430 : KSound Tryz.prog (rowsK baseK l430) := rowsK_cons k413 c413
theorem c430 : Row.C Tryz.prog q430 := row_c k430 (by have h := g15; simp only [Bool.and_eq_true] at h; exact h.2.2.1)
theorem k445 : KSound Tryz.prog (rowsK baseK l445) := rowsK_cons k430 c430
theorem c445 : Row.C Tryz.prog q445 := row_c k445 (by have h := g16; simp only [Bool.and_eq_true] at h; exact h.1)
theorem k448 : KSound Tryz.prog (rowsK baseK l448) := rowsK_cons k445 c445
theorem c448 : Row.C Tryz.prog q448 := row_c k448 (by have h := g16; simp only [Bool.and_eq_true] at h; exact h.2.1)
theorem k452 : KSound Tryz.prog (rowsK baseK l452) := rowsK_cons k448 c448
theorem c452 : Row.C Tryz.prog q452 := row_c k452 (by have h := g16; simp only [Bool.and_eq_true] at h; exact h.2.2.1)
theorem k456 : KSound Tryz.prog (rowsK baseK l456) := rowsK_cons k452 c452
theorem c456 : Row.C Tryz.prog q456 := row_c k456 (by have h := g16; simp only [Bool.and_eq_true] at h; exact h.2.2.2.1)
theorem k457 : KSound Tryz.prog (rowsK baseK l457) := rowsK_cons k456 c456
theorem c457 : Row.C Tryz.prog q457 := row_c k457 (by have h := g16; simp only [Bool.and_eq_true] at h; exact h.2.2.2.2.1)
theorem k459 : KSound Tryz.prog (rowsK baseK l459) := rowsK_cons k457 c457
theorem c459 : Row.C Tryz.prog q459 := row_c k459 (by have h := g17; simp only [Bool.and_eq_true] at h; exact h.1)
theorem k464 : KSound Tryz.prog (rowsK baseK l464) := rowsK_cons k459 c459
theorem c464 : Row.C Tryz.prog q464 := row_c k464 (by have h := g17; simp only [Bool.and_eq_true] at h; exact h.2.1)
theorem k466 : KSound Tryz.prog (rowsK baseK l466) := rowsK_cons k464 c464
theorem c466 : Row.C Tryz.prog q466 := row_c k466 (by have h := g17; simp only [Bool.and_eq_true] at h; exact h.2.2.1)
theorem k468 : KSound Tryz.prog (rowsK baseK l468) := rowsK_cons k466 c466
theorem c468 : Row.C Tryz.prog q468 := row_c k468 (by have h := g17; simp only [Bool.and_eq_true] at h; exact h.2.2.2.1)
theorem k476 : KSound Tryz.prog (rowsK baseK l476) := rowsK_cons k468 c468
theorem c476 : Row.C Tryz.prog q476 := row_c k476 (by have h := g17; simp only [Bool.and_eq_true] at h; exact h.2.2.2.2.1)
theorem k482 : KSound Tryz.prog (rowsK baseK l482) := rowsK_cons k476 c476
theorem c482 : Row.C Tryz.prog q482 := row_c k482 (by have h := g17; simp only [Bool.and_eq_true] at h; exact h.2.2.2.2.2.1)
theorem k483 : KSound Tryz.prog (rowsK baseK l483) := rowsK_cons k482 c482
theorem c483 : Row.C Tryz.prog q483 := row_c k483 (by have h := g17; simp only [Bool.and_eq_true] at h; exact h.2.2.2.2.2.2.1)
theorem k485 : KSound Tryz.prog (rowsK baseK l485) := rowsK_cons k483 c483
theorem c485 : Row.C Tryz.prog q485 := row_c k485 (by have h := g17; simp only [Bool.and_eq_true] at h; exact h.2.2.2.2.2.2.2.1)
theorem k486 : KSound Tryz.prog (rowsK baseK l486) := rowsK_cons k485 c485
theorem c486 : Row.C Tryz.prog q486 := row_c k486 (by have h := g17; simp only [Bool.and_eq_true] at h; exact h.2.2.2.2.2.2.2.2.1)
theorem k488 : KSound Tryz.prog (rowsK baseK l488) := rowsK_cons k486 c486
theorem c488 : Row.C Tryz.prog q488 := row_c k488 (by have h := g17; simp only [Bool.and_eq_true] at h; exact h.2.2.2.2.2.2.2.2.2.1)
theorem k498 : KSound Tryz.prog (rowsK baseK l498) := rowsK_cons k488 c488
theorem c498 : Row.C Tryz.prog q498 := row_c k498 (by have h := g18; simp only [Bool.and_eq_true] at h; exact h.1)
theorem k505 : KSound Tryz.prog (rowsK baseK l505) := rowsK_cons k498 c498
theorem c505 : Row.C Tryz.prog q505 := row_c k505 (by have h := g18; simp only [Bool.and_eq_true] at h; exact h.2.1)
theorem k506 : KSound Tryz.prog (rowsK baseK l506) := rowsK_cons k505 c505
theorem c506 : Row.C Tryz.prog q506 := row_c k506 (by have h := g18; simp only [Bool.and_eq_true] at h; exact h.2.2.1)
theorem k508 : KSound Tryz.prog (rowsK baseK l508) := rowsK_cons k506 c506
theorem c508 : Row.C Tryz.prog q508 := row_c k508 (by have h := g18; simp only [Bool.and_eq_true] at h; exact h.2.2.2.1)
theorem k513 : KSound Tryz.prog (rowsK baseK l513) := rowsK_cons k508 c508
theorem c513 : Row.C Tryz.prog q513 := row_c k513 (by have h := g18; simp only [Bool.and_eq_true] at h; exact h.2.2.2.2.1)
theorem k518 : KSound Tryz.prog (rowsK baseK l518) := rowsK_cons k513 c513
theorem c518 : Row.C Tryz.prog q518 := row_c k518 (by have h := g19; simp only [Bool.and_eq_true] at h; exact h.1)
theorem k520 : KSound Tryz.prog (rowsK baseK l520) := rowsK_cons k518 c518
theorem c520 : Row.C Tryz.prog q520 := row_c k520 (by have h := g20; simp only [Bool.and_eq_true] at h; exact h.1)
theorem k534 : KSound Tryz.prog (rowsK baseK l534) := rowsK_cons k520 c520
theorem c534 : Row.C Tryz.prog q534 := row_c k534 (by have h := g20; simp only [Bool.and_eq_true] at h; exact h.2.1)
theorem k536 : KSound Tryz.prog (rowsK baseK l536) := rowsK_cons k534 c534
theorem c536 : Row.C Tryz.prog q536 := row_c k536 (by have h := g21; simp only [Bool.and_eq_true] at h; exact h.1)
theorem k541 : KSound Tryz.prog (rowsK baseK l541) := rowsK_cons k536 c536
theorem c541 : Row.C Tryz.prog q541 := row_c k541 (by have h := g21; simp only [Bool.and_eq_true] at h; exact h.2.1)
theorem k565 : KSound Tryz.prog (rowsK baseK l565) := rowsK_cons k541 c541
theorem c565 : Row.C Tryz.prog q565 := row_c k565 (by have h := g21; simp only [Bool.and_eq_true] at h; exact h.2.2.1)
theorem k584 : KSound Tryz.prog (rowsK baseK l584) := rowsK_cons k565 c565
theorem c584 : Row.C Tryz.prog q584 := row_c k584 (by have h := g22; simp only [Bool.and_eq_true] at h; exact h.1)
theorem k585 : KSound Tryz.prog (rowsK baseK l585) := rowsK_cons k584 c584
theorem c585 : Row.C Tryz.prog q585 := row_c k585 (by have h := g22; simp only [Bool.and_eq_true] at h; exact h.2.1)
theorem k587 : KSound Tryz.prog (rowsK baseK l587) := rowsK_cons k585 c585
theorem c587 : Row.C Tryz.prog q587 := row_c k587 (by have h := g22; simp only [Bool.and_eq_true] at h; exact h.2.2.1)
theorem k588 : KSound Tryz.prog (rowsK baseK l588) := rowsK_cons k587 c587
theorem c588 : Row.C Tryz.prog q588 := row_c k588 (by have h := g22; simp only [Bool.and_eq_true] at h; exact h.2.2.2.1)
theorem k589 : KSound Tryz.prog (rowsK baseK l589) := rowsK_cons k588 c588
theorem c589 : Row.C Tryz.prog q589 := row_c k589 (by have h := g22; simp only [Bool.and_eq_true] at h; exact h.2.2.2.2.1)
theorem k590 : KSound Tryz.prog (rowsK baseK l590) := rowsK_cons k589 c589
theorem c590 : Row.C Tryz.prog q590 := row_c k590 (by have h := g22; simp only [Bool.and_eq_true] at h; exact h.2.2.2.2.2.1)
theorem k591 : KSound Tryz.prog (rowsK baseK l591) := rowsK_cons k590 c590
theorem c591 : Row.C Tryz.prog q591 := row_c k591 (by have h := g22; simp only [Bool.and_eq_true] at h; exact h.2.2.2.2.2.2.1)
theorem k595 : KSound Tryz.prog (rowsK baseK l595) := rowsK_cons k591 c591
theorem c595 : Row.C Tryz.prog q595 := row_c k595 (by have h := g22; simp only [Bool.and_eq_true] at h; exact h.2.2.2.2.2.2.2.1)
theorem k596 : KSound Tryz.prog (rowsK baseK l596) := rowsK_cons k595 c595
theorem c596 : Row.C Tryz.prog q596 := row_c k596 (by have h := g22; simp only [Bool.and_eq_true] at h; exact h.2.2.2.2.2.2.2.2.1)
theorem k606 : KSound Tryz.prog (rowsK baseK l606) := rowsK_cons k596 c596
theorem c606 : Row.C Tryz.prog q606 := row_c k606 (by have h := g22; simp only [Bool.and_eq_true] at h; exact h.2.2.2.2.2.2.2.2.2.1)
theorem k607 : KSound Tryz.prog (rowsK baseK l607) := rowsK_cons k606 c606
theorem c607 : Row.C Tryz.prog q607 := row_c k607 (by have h := g22; simp only [Bool.and_eq_true] at h; exact h.2.2.2.2.2.2.2.2.2.2.1)
theorem k608 : KSound Tryz.prog (rowsK baseK l608) := rowsK_cons k607 c607
theorem c608 : Row.C Tryz.prog q608 := row_c k608 (by have h := g22; simp only [Bool.and_eq_true] at h; exact h.2.2.2.2.2.2.2.2.2.2.2.1)
theorem k613 : KSound Tryz.prog (rowsK baseK l613) := rowsK_cons k608 c608
theorem c613 : Row.C Tryz.prog q613 := row_c k613 (by have h := g23; simp only [Bool.and_eq_true] at h; exact h.1)
theorem k627 : KSound Tryz.prog (rowsK baseK l627) := rowsK_cons k613 c613
theorem c627 : Row.C Tryz.prog q627 := row_c k627 (by have h := g23; simp only [Bool.and_eq_true] at h; exact h.2.1)
theorem k630 : KSound Tryz.prog (rowsK baseK l630) := rowsK_cons k627 c627
theorem c630 : Row.C Tryz.prog q630 := row_c k630 (by have h := g23; simp only [Bool.and_eq_true] at h; exact h.2.2.1)
theorem k632 : KSound Tryz.prog (rowsK baseK l632) := rowsK_cons k630 c630
theorem c632 : Row.C Tryz.prog q632 := row_c k632 (by have h := g23; simp only [Bool.and_eq_true] at h; exact h.2.2.2.1)
theorem k634 : KSound Tryz.prog (rowsK baseK l634) := rowsK_cons k632 c632
theorem c634 : Row.C Tryz.prog q634 := row_c k634 (by have h := g24; simp only [Bool.and_eq_true] at h; exact h.1)
theorem k643 : KSound Tryz.prog (rowsK baseK l643) := rowsK_cons k634 c634
theorem c643 : Row.C Tryz.prog q643 := row_c k643 (by have h := g24; simp only [Bool.and_eq_true] at h; exact h.2.1)
theorem k649 : KSound Tryz.prog (rowsK baseK l649) := rowsK_cons k643 c643
theorem c649 : Row.C Tryz.prog q649 := row_c k649 (by have h := g24; simp only [Bool.and_eq_true] at h; exact h.2.2.1)
theorem k667 : KSound Tryz.prog (rowsK baseK l667) := rowsK_cons k649 c649
theorem c667 : Row.C Tryz.prog q667 := row_c k667 (by have h := g25; simp only [Bool.and_eq_true] at h; exact h.1)
theorem k686 : KSound Tryz.prog (rowsK baseK l686) := rowsK_cons k667 c667
theorem c686 : Row.C Tryz.prog q686 := row_c k686 (by have h := g25; simp only [Bool.and_eq_true] at h; exact h.2.1)
theorem k689 : KSound Tryz.prog (rowsK baseK l689) := rowsK_cons k686 c686
theorem c689 : Row.C Tryz.prog q689 := row_c k689 (by have h := g26; simp only [Bool.and_eq_true] at h; exact h.1)
theorem k701 : KSound Tryz.prog (rowsK baseK l701) := rowsK_cons k689 c689
theorem c701 : Row.C Tryz.prog q701 := row_c k701 (by have h := g26; simp only [Bool.and_eq_true] at h; exact h.2.1)
theorem k703 : KSound Tryz.prog (rowsK baseK l703) := rowsK_cons k701 c701
theorem c703 : Row.C Tryz.prog q703 := row_c k703 (by have h := g26; simp only [Bool.and_eq_true] at h; exact h.2.2.1)
theorem k705 : KSound Tryz.prog (rowsK baseK l705) := rowsK_cons k703 c703
theorem c705 : Row.C Tryz.prog q705 := row_c k705 (by have h := g26; simp only [Bool.and_eq_true] at h; exact h.2.2.2.1)
theorem k708 : KSound Tryz.prog (rowsK baseK l708) := rowsK_cons k705 c705
theorem c708 : Row.C Tryz.prog q708 := row_c k708 (by have h := g26; simp only [Bool.and_eq_true] at h; exact h.2.2.2.2.1)
theorem k711 : KSound Tryz.prog (rowsK baseK l711) := rowsK_cons k708 c708
theorem c711 : Row.C Tryz.prog q711 := row_c k711 (by have h := g27; simp only [Bool.and_eq_true] at h; exact h.1)
theorem k712 : KSound Tryz.prog (rowsK baseK l712) := rowsK_cons k711 c711
theorem c712 : Row.C Tryz.prog q712 := row_c k712 (by have h := g27; simp only [Bool.and_eq_true] at h; exact h.2.1)
theorem k715 : KSound Tryz.prog (rowsK baseK l715) := rowsK_cons k712 c712
theorem c715 : Row.C Tryz.prog q715 := row_c k715 (by have h := g28; simp only [Bool.and_eq_true] at h; exact h.1)
end Go.Proofs.YticmnccpdpdaiaaGreatDoor
