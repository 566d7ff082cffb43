/-
  The closed runs as contracts.
-/
import Derived.Test.YtmfodaenlkcjdaaGreatDoorGz0
import Derived.Test.YtmfodaenlkcjdaaGreatDoorGz2
import Derived.Test.YtmfodaenlkcjdaaGreatDoorGz4
import Derived.Test.YtmfodaenlkcjdaaGreatDoorGz6
import Derived.Test.YtmfodaenlkcjdaaGreatDoorGz8
import Derived.Test.YtmfodaenlkcjdaaGreatDoorGz10
import Derived.Test.YtmfodaenlkcjdaaGreatDoorGz12
import Derived.Test.YtmfodaenlkcjdaaGreatDoorGz14
import Derived.Test.YtmfodaenlkcjdaaGreatDoorGz16
import Derived.Test.YtmfodaenlkcjdaaGreatDoorGz18
import Derived.Test.YtmfodaenlkcjdaaGreatDoorGz20
import Derived.Test.YtmfodaenlkcjdaaGreatDoorGz22
import Derived.Test.YtmfodaenlkcjdaaGreatDoorGz24
import Derived.Test.YtmfodaenlkcjdaaGreatDoorGz26
import Derived.Test.YtmfodaenlkcjdaaGreatDoorGz28
import Derived.Test.YtmfodaenlkcjdaaGreatDoorGz30
import Derived.Test.YtmfodaenlkcjdaaGreatDoorGz32
import Derived.Test.YtmfodaenlkcjdaaGreatDoorGz34
import Derived.Test.YtmfodaenlkcjdaaGreatDoorGz36
import Derived.Test.YtmfodaenlkcjdaaGreatDoorGz38

namespace Go.Proofs.YtmfodaenlkcjdaaGreatDoor
open Go.RowKit Am
theorem k2 : KSound Tryz.prog (rowsK baseK l2) := baseK_ok
theorem c2 : Row.C Tryz.prog q2 := row_c k2 (by have h := g0; simp only [Bool.and_eq_true] at h; exact h.1)
theorem k3 : KSound Tryz.prog (rowsK baseK l3) := rowsK_cons k2 c2
theorem c3 : Row.C Tryz.prog q3 := row_c k3 (by have h := g0; simp only [Bool.and_eq_true] at h; exact h.2.1)
theorem k4 : KSound Tryz.prog (rowsK baseK l4) := rowsK_cons k3 c3
theorem c4 : Row.C Tryz.prog q4 := row_c k4 (by have h := g0; simp only [Bool.and_eq_true] at h; exact h.2.2.1)
theorem k7 : KSound Tryz.prog (rowsK baseK l7) := rowsK_cons k4 c4
theorem c7 : Row.C Tryz.prog q7 := row_c k7 (by have h := g0; simp only [Bool.and_eq_true] at h; exact h.2.2.2.1)
theorem k8 : KSound Tryz.prog (rowsK baseK l8) := rowsK_cons k7 c7
theorem c8 : Row.C Tryz.prog q8 := row_c k8 (by have h := g0; simp only [Bool.and_eq_true] at h; exact h.2.2.2.2.1)
theorem k9 : KSound Tryz.prog (rowsK baseK l9) := rowsK_cons k8 c8
theorem c9 : Row.C Tryz.prog q9 := row_c k9 (by have h := g0; simp only [Bool.and_eq_true] at h; exact h.2.2.2.2.2.1)
theorem k17 : KSound Tryz.prog (rowsK baseK l17) := rowsK_cons k9 c9
theorem c17 : Row.C Tryz.prog q17 := row_c k17 (by have h := g0; simp only [Bool.and_eq_true] at h; exact h.2.2.2.2.2.2.1)
theorem k18 : KSound Tryz.prog (rowsK baseK l18) := rowsK_cons k17 c17
theorem c18 : Row.C Tryz.prog q18 := row_c k18 (by have h := g0; simp only [Bool.and_eq_true] at h; exact h.2.2.2.2.2.2.2.1)
theorem k24 : KSound Tryz.prog (rowsK baseK l24) := rowsK_cons k18 c18
theorem c24 : Row.C Tryz.prog q24 := row_c k24 (by have h := g0; simp only [Bool.and_eq_true] at h; exact h.2.2.2.2.2.2.2.2.1)
theorem k25 : KSound Tryz.prog (rowsK baseK l25) := rowsK_cons k24 c24
theorem c25 : Row.C Tryz.prog q25 := row_c k25 (by have h := g0; simp only [Bool.and_eq_true] at h; exact h.2.2.2.2.2.2.2.2.2.1)
theorem k26 : KSound Tryz.prog (rowsK baseK l26) := rowsK_cons k25 c25
theorem c26 : Row.C Tryz.prog q26 := row_c k26 (by have h := g1; simp only [Bool.and_eq_true] at h; exact h.1)
theorem k27 : KSound Tryz.prog (rowsK baseK l27) := rowsK_cons k26 c26
theorem c27 : Row.C Tryz.prog q27 := row_c k27 (by have h := g1; simp only [Bool.and_eq_true] at h; exact h.2.1)
theorem k28 : KSound Tryz.prog (rowsK baseK l28) := rowsK_cons k27 c27
theorem c28 : Row.C Tryz.prog q28 := row_c k28 (by have h := g1; simp only [Bool.and_eq_true] at h; exact h.2.2.1)
theorem k29 : KSound Tryz.prog (rowsK baseK l29) := rowsK_cons k28 c28
theorem c29 : Row.C Tryz.prog q29 := row_c k29 (by have h := g1; simp only [Bool.and_eq_true] at h; exact h.2.2.2.1)
theorem k30 : KSound Tryz.prog (rowsK baseK l30) := rowsK_cons k29 c29
theorem c30 : Row.C Tryz.prog q30 := row_c k30 (by have h := g1; simp only [Bool.and_eq_true] at h; exact h.2.2.2.2.1)
theorem k31 : KSound Tryz.prog (rowsK baseK l31) := rowsK_cons k30 c30
theorem c31 : Row.C Tryz.prog q31 := row_c k31 (by have h := g2; simp only [Bool.and_eq_true] at h; exact h.1)
theorem k32 : KSound Tryz.prog (rowsK baseK l32) := rowsK_cons k31 c31
theorem c32 : Row.C Tryz.prog q32 := row_c k32 (by have h := g2; simp only [Bool.and_eq_true] at h; exact h.2.1)
theorem k74 : KSound Tryz.prog (rowsK baseK l74) := rowsK_cons k32 c32
theorem c74 : Row.C Tryz.prog q74 := row_c k74 (by have h := g3; simp only [Bool.and_eq_true] at h; exact h.1)
theorem k79 : KSound Tryz.prog (rowsK baseK l79) := rowsK_cons k74 c74
theorem c79 : Row.C Tryz.prog q79 := row_c k79 (by have h := g3; simp only [Bool.and_eq_true] at h; exact h.2.1)
theorem k80 : KSound Tryz.prog (rowsK baseK l80) := rowsK_cons k79 c79
theorem c80 : Row.C Tryz.prog q80 := row_c k80 (by have h := g3; simp only [Bool.and_eq_true] at h; exact h.2.2.1)
theorem k81 : KSound Tryz.prog (rowsK baseK l81) := rowsK_cons k80 c80
theorem c81 : Row.C Tryz.prog q81 := row_c k81 (by have h := g3; simp only [Bool.and_eq_true] at h; exact h.2.2.2.1)
theorem k88 : KSound Tryz.prog (rowsK baseK l88) := rowsK_cons k81 c81
theorem c88 : Row.C Tryz.prog q88 := row_c k88 (by have h := g3; simp only [Bool.and_eq_true] at h; exact h.2.2.2.2.1)
theorem k89 : KSound Tryz.prog (rowsK baseK l89) := rowsK_cons k88 c88
theorem c89 : Row.C Tryz.prog q89 := row_c k89 (by have h := g3; simp only [Bool.and_eq_true] at h; exact h.2.2.2.2.2.1)
theorem k96 : KSound Tryz.prog (rowsK baseK l96) := rowsK_cons k89 c89
theorem c96 : Row.C Tryz.prog q96 := row_c k96 (by have h := g3; simp only [Bool.and_eq_true] at h; exact h.2.2.2.2.2.2.1)
theorem k98 : KSound Tryz.prog (rowsK baseK l98) := rowsK_cons k96 c96
theorem c98 : Row.C Tryz.prog q98 := row_c k98 (by have h := g4; simp only [Bool.and_eq_true] at h; exact h.1)
theorem k101 : KSound Tryz.prog (rowsK baseK l101) := rowsK_cons k98 c98
theorem c101 : Row.C Tryz.prog q101 := row_c k101 (by have h := g4; simp only [Bool.and_eq_true] at h; exact h.2.1)
theorem k103 : KSound Tryz.prog (rowsK baseK l103) := rowsK_cons k101 c101
theorem c103 : Row.C Tryz.prog q103 := row_c k103 (by have h := g4; simp only [Bool.and_eq_true] at h; exact h.2.2.1)
theorem k105 : KSound Tryz.prog (rowsK baseK l105) := rowsK_cons k103 c103
theorem c105 : Row.C Tryz.prog q105 := row_c k105 (by have h := g4; simp only [Bool.and_eq_true] at h; exact h.2.2.2.1)
theorem k106 : KSound Tryz.prog (rowsK baseK l106) := rowsK_cons k105 c105
theorem c106 : Row.C Tryz.prog q106 := row_c k106 (by have h := g4; simp only [Bool.and_eq_true] at h; exact h.2.2.2.2.1)
theorem k107 : KSound Tryz.prog (rowsK baseK l107) := rowsK_cons k106 c106
theorem c107 : Row.C Tryz.prog q107 := row_c k107 (by have h := g4; simp only [Bool.and_eq_true] at h; exact h.2.2.2.2.2.1)
theorem k108 : KSound Tryz.prog (rowsK baseK l108) := rowsK_cons k107 c107
theorem c108 : Row.C Tryz.prog q108 := row_c k108 (by have h := g4; simp only [Bool.and_eq_true] at h; exact h.2.2.2.2.2.2.1)
theorem k109 : KSound Tryz.prog (rowsK baseK l109) := rowsK_cons k108 c108
theorem c109 : Row.C Tryz.prog q109 := row_c k109 (by have h := g4; simp only [Bool.and_eq_true] at h; exact h.2.2.2.2.2.2.2.1)
theorem k111 : KSound Tryz.prog (rowsK baseK l111) := rowsK_cons k109 c109
theorem c111 : Row.C Tryz.prog q111 := row_c k111 (by have h := g5; simp only [Bool.and_eq_true] at h; exact h.1)
theorem k114 : KSound Tryz.prog (rowsK baseK l114) := rowsK_cons k111 c111
theorem c114 : Row.C Tryz.prog q114 := row_c k114 (by have h := g5; simp only [Bool.and_eq_true] at h; exact h.2.1)
theorem k119 : KSound Tryz.prog (rowsK baseK l119) := rowsK_cons k114 c114
theorem c119 : Row.C Tryz.prog q119 := row_c k119 (by have h := g5; simp only [Bool.and_eq_true] at h; exact h.2.2.1)
theorem k121 : KSound Tryz.prog (rowsK baseK l121) := rowsK_cons k119 c119
theorem c121 : Row.C Tryz.prog q121 := row_c k121 (by have h := g5; simp only [Bool.and_eq_true] at h; exact h.2.2.2.1)
theorem k122 : KSound Tryz.prog (rowsK baseK l122) := rowsK_cons k121 c121
theorem c122 : Row.C Tryz.prog q122 := row_c k122 (by have h := g5; simp only [Bool.and_eq_true] at h; exact h.2.2.2.2.1)
theorem k128 : KSound Tryz.prog (rowsK baseK l128) := rowsK_cons k122 c122
theorem c128 : Row.C Tryz.prog q128 := row_c k128 (by have h := g6; simp only [Bool.and_eq_true] at h; exact h.1)
theorem k130 : KSound Tryz.prog (rowsK baseK l130) := rowsK_cons k128 c128
theorem c130 : Row.C Tryz.prog q130 := row_c k130 (by have h := g6; simp only [Bool.and_eq_true] at h; exact h.2.1)
theorem k133 : KSound Tryz.prog (rowsK baseK l133) := rowsK_cons k130 c130
theorem c133 : Row.C Tryz.prog q133 := row_c k133 (by have h := g6; simp only [Bool.and_eq_true] at h; exact h.2.2.1)
theorem k136 : KSound Tryz.prog (rowsK baseK l136) := rowsK_cons k133 c133
theorem c136 : Row.C Tryz.prog q136 := row_c k136 (by have h := g6; simp only [Bool.and_eq_true] at h; exact h.2.2.2.1)
theorem k138 : KSound Tryz.prog (rowsK baseK l138) := rowsK_cons k136 c136
theorem c138 : Row.C Tryz.prog q138 := row_c k138 (by have h := g6; simp only [Bool.and_eq_true] at h; exact h.2.2.2.2.1)
theorem k142 : KSound Tryz.prog (rowsK baseK l142) := rowsK_cons k138 c138
theorem c142 : Row.C Tryz.prog q142 := row_c k142 (by have h := g6; simp only [Bool.and_eq_true] at h; exact h.2.2.2.2.2.1)
theorem k143 : KSound Tryz.prog (rowsK baseK l143) := rowsK_cons k142 c142
theorem c143 : Row.C Tryz.prog q143 := row_c k143 (by have h := g6; simp only [Bool.and_eq_true] at h; exact h.2.2.2.2.2.2.1)
theorem k144 : KSound Tryz.prog (rowsK baseK l144) := rowsK_cons k143 c143
theorem c144 : Row.C Tryz.prog q144 := row_c k144 (by have h := g6; simp only [Bool.and_eq_true] at h; exact h.2.2.2.2.2.2.2.1)
theorem k145 : KSound Tryz.prog (rowsK baseK l145) := rowsK_cons k144 c144
theorem c145 : Row.C Tryz.prog q145 := row_c k145 (by have h := g6; simp only [Bool.and_eq_true] at h; exact h.2.2.2.2.2.2.2.2.1)
theorem k148 : KSound Tryz.prog (rowsK baseK l148) := rowsK_cons k145 c145
theorem c148 : Row.C Tryz.prog q148 := row_c k148 (by have h := g7; simp only [Bool.and_eq_true] at h; exact h.1)
theorem k151 : KSound Tryz.prog (rowsK baseK l151) := rowsK_cons k148 c148
theorem c151 : Row.C Tryz.prog q151 := row_c k151 (by have h := g7; simp only [Bool.and_eq_true] at h; exact h.2.1)
theorem k152 : KSound Tryz.prog (rowsK baseK l152) := rowsK_cons k151 c151
theorem c152 : Row.C Tryz.prog q152 := row_c k152 (by have h := g7; simp only [Bool.and_eq_true] at h; exact h.2.2.1)
theorem k155 : KSound Tryz.prog (rowsK baseK l155) := rowsK_cons k152 c152
theorem c155 : Row.C Tryz.prog q155 := row_c k155 (by have h := g7; simp only [Bool.and_eq_true] at h; exact h.2.2.2.1)
theorem k161 : KSound Tryz.prog (rowsK baseK l161) := rowsK_cons k155 c155
theorem c161 : Row.C Tryz.prog q161 := row_c k161 (by have h := g7; simp only [Bool.and_eq_true] at h; exact h.2.2.2.2.1)
theorem k163 : KSound Tryz.prog (rowsK baseK l163) := rowsK_cons k161 c161
theorem c163 : Row.C Tryz.prog q163 := row_c k163 (by have h := g7; simp only [Bool.and_eq_true] at h; exact h.2.2.2.2.2.1)
theorem k166 : KSound Tryz.prog (rowsK baseK l166) := rowsK_cons k163 c163
theorem c166 : Row.C Tryz.prog q166 := row_c k166 (by have h := g7; simp only [Bool.and_eq_true] at h; exact h.2.2.2.2.2.2.1)
theorem k170 : KSound Tryz.prog (rowsK baseK l170) := rowsK_cons k166 c166
theorem c170 : Row.C Tryz.prog q170 := row_c k170 (by have h := g7; simp only [Bool.and_eq_true] at h; exact h.2.2.2.2.2.2.2.1)
theorem k171 : KSound Tryz.prog (rowsK baseK l171) := rowsK_cons k170 c170
theorem c171 : Row.C Tryz.prog q171 := row_c k171 (by have h := g7; simp only [Bool.and_eq_true] at h; exact h.2.2.2.2.2.2.2.2.1)
theorem k172 : KSound Tryz.prog (rowsK baseK l172) := rowsK_cons k171 c171
theorem c172 : Row.C Tryz.prog q172 := row_c k172 (by have h := g7; simp only [Bool.and_eq_true] at h; exact h.2.2.2.2.2.2.2.2.2.1)
theorem k173 : KSound Tryz.prog (rowsK baseK l173) := rowsK_cons k172 c172
theorem c173 : Row.C Tryz.prog q173 := row_c k173 (by have h := g7; simp only [Bool.and_eq_true] at h; exact h.2.2.2.2.2.2.2.2.2.2.1)
theorem k174 : KSound Tryz.prog (rowsK baseK l174) := rowsK_cons k173 c173
theorem c174 : Row.C Tryz.prog q174 := row_c k174 (by have h := g7; simp only [Bool.and_eq_true] at h; exact h.2.2.2.2.2.2.2.2.2.2.2.1)
theorem k176 : KSound Tryz.prog (rowsK baseK l176) := rowsK_cons k174 c174
theorem c176 : Row.C Tryz.prog q176 := row_c k176 (by have h := g7; simp only [Bool.and_eq_true] at h; exact h.2.2.2.2.2.2.2.2.2.2.2.2.1)
theorem k181 : KSound Tryz.prog (rowsK baseK l181) := rowsK_cons k176 c176
theorem c181 : Row.C Tryz.prog q181 := row_c k181 (by have h := g7; simp only [Bool.and_eq_true] at h; exact h.2.2.2.2.2.2.2.2.2.2.2.2.2.1)
theorem k191 : KSound Tryz.prog (rowsK baseK l191) := rowsK_cons k181 c181
theorem c191 : Row.C Tryz.prog q191 := row_c k191 (by have h := g7; simp only [Bool.and_eq_true] at h; exact h.2.2.2.2.2.2.2.2.2.2.2.2.2.2.1)
theorem k192 : KSound Tryz.prog (rowsK baseK l192) := rowsK_cons k191 c191
theorem c192 : Row.C Tryz.prog q192 := row_c k192 (by have h := g7; simp only [Bool.and_eq_true] at h; exact h.2.2.2.2.2.2.2.2.2.2.2.2.2.2.2.1)
theorem k193 : KSound Tryz.prog (rowsK baseK l193) := rowsK_cons k192 c192
theorem c193 : Row.C Tryz.prog q193 := row_c k193 (by have h := g7; simp only [Bool.and_eq_true] at h; exact h.2.2.2.2.2.2.2.2.2.2.2.2.2.2.2.2.1)
theorem k194 : KSound Tryz.prog (rowsK baseK l194) := rowsK_cons k193 c193
theorem c194 : Row.C Tryz.prog q194 := row_c k194 (by have h := g7; simp only [Bool.and_eq_true] at h; exact h.2.2.2.2.2.2.2.2.2.2.2.2.2.2.2.2.2.1)
theorem k198 : KSound Tryz.prog (rowsK baseK l198) := rowsK_cons k194 c194
theorem c198 : Row.C Tryz.prog q198 := row_c k198 (by have h := g7; simp only [Bool.and_eq_true] at h; exact h.2.2.2.2.2.2.2.2.2.2.2.2.2.2.2.2.2.2.1)
theorem k199 : KSound Tryz.prog (rowsK baseK l199) := rowsK_cons k198 c198
theorem c199 : Row.C Tryz.prog q199 := row_c k199 (by have h := g8; simp only [Bool.and_eq_true] at h; exact h.1)
theorem k202 : KSound Tryz.prog (rowsK baseK l202) := rowsK_cons k199 c199
theorem c202 : Row.C Tryz.prog q202 := row_c k202 (by have h := g8; simp only [Bool.and_eq_true] at h; exact h.2.1)
theorem k203 : KSound Tryz.prog (rowsK baseK l203) := rowsK_cons k202 c202
theorem c203 : Row.C Tryz.prog q203 := row_c k203 (by have h := g9; simp only [Bool.and_eq_true] at h; exact h.1)
theorem k215 : KSound Tryz.prog (rowsK baseK l215) := rowsK_cons k203 c203
theorem c215 : Row.C Tryz.prog q215 := row_c k215 (by have h := g10; simp only [Bool.and_eq_true] at h; exact h.1)
theorem k232 : KSound Tryz.prog (rowsK baseK l232) := rowsK_cons k215 c215
theorem c232 : Row.C Tryz.prog q232 := row_c k232 (by have h := g10; simp only [Bool.and_eq_true] at h; exact h.2.1)
theorem k236 : KSound Tryz.prog (rowsK baseK l236) := rowsK_cons k232 c232
theorem c236 : Row.C Tryz.prog q236 := row_c k236 (by have h := g10; simp only [Bool.and_eq_true] at h; exact h.2.2.1)
theorem k240 : KSound Tryz.prog (rowsK baseK l240) := rowsK_cons k236 c236
theorem c240 : Row.C Tryz.prog q240 := row_c k240 (by have h := g10; simp only [Bool.and_eq_true] at h; exact h.2.2.2.1)
theorem k245 : KSound Tryz.prog (rowsK baseK l245) := rowsK_cons k240 c240
theorem c245 : Row.C Tryz.prog q245 := row_c k245 (by have h := g10; simp only [Bool.and_eq_true] at h; exact h.2.2.2.2.1)
theorem k250 : KSound Tryz.prog (rowsK baseK l250) := rowsK_cons k245 c245
theorem c250 : Row.C Tryz.prog q250 := row_c k250 (by have h := g10; simp only [Bool.and_eq_true] at h; exact h.2.2.2.2.2.1)
theorem k255 : KSound Tryz.prog (rowsK baseK l255) := rowsK_cons k250 c250
theorem c255 : Row.C Tryz.prog q255 := row_c k255 (by have h := g10; simp only [Bool.and_eq_true] at h; exact h.2.2.2.2.2.2.1)
theorem k272 : KSound Tryz.prog (rowsK baseK l272) := rowsK_cons k255 c255
theorem c272 : Row.C Tryz.prog q272 := row_c k272 (by have h := g11; simp only [Bool.and_eq_true] at h; exact h.1)
theorem k274 : KSound Tryz.prog (rowsK baseK l274) := rowsK_cons k272 c272
theorem c274 : Row.C Tryz.prog q274 := row_c k274 (by have h := g11; simp only [Bool.and_eq_true] at h; exact h.2.1)
theorem k276 : KSound Tryz.prog (rowsK baseK l276) := rowsK_cons k274 c274
theorem c276 : Row.C Tryz.prog q276 := row_c k276 (by have h := g11; simp only [Bool.and_eq_true] at h; exact h.2.2.1)
theorem k278 : KSound Tryz.prog (rowsK baseK l278) := rowsK_cons k276 c276
theorem c278 : Row.C Tryz.prog q278 := row_c k278 (by have h := g11; simp only [Bool.and_eq_true] at h; exact h.2.2.2.1)
theorem k279 : KSound Tryz.prog (rowsK baseK l279) := rowsK_cons k278 c278
theorem c279 : Row.C Tryz.prog q279 := row_c k279 (by have h := g11; simp only [Bool.and_eq_true] at h; exact h.2.2.2.2.1)
theorem k284 : KSound Tryz.prog (rowsK baseK l284) := rowsK_cons k279 c279
theorem c284 : Row.C Tryz.prog q284 := row_c k284 (by have h := g11; simp only [Bool.and_eq_true] at h; exact h.2.2.2.2.2.1)
theorem k306 : KSound Tryz.prog (rowsK baseK l306) := rowsK_cons k284 c284
theorem c306 : Row.C Tryz.prog q306 := row_c k306 (by have h := g11; simp only [Bool.and_eq_true] at h; exact h.2.2.2.2.2.2.1)
theorem k309 : KSound Tryz.prog (rowsK baseK l309) := rowsK_cons k306 c306
theorem c309 : Row.C Tryz.prog q309 := row_c k309 (by have h := g11; simp only [Bool.and_eq_true] at h; exact h.2.2.2.2.2.2.2.1)
theorem k311 : KSound Tryz.prog (rowsK baseK l311) := rowsK_cons k309 c309
theorem c311 : Row.C Tryz.prog q311 := row_c k311 (by have h := g12; simp only [Bool.and_eq_true] at h; exact h.1)
theorem k314 : KSound Tryz.prog (rowsK baseK l314) := rowsK_cons k311 c311
theorem c314 : Row.C Tryz.prog q314 := row_c k314 (by have h := g13; simp only [Bool.and_eq_true] at h; exact h.1)
theorem k316 : KSound Tryz.prog (rowsK baseK l316) := rowsK_cons k314 c314
theorem c316 : Row.C Tryz.prog q316 := row_c k316 (by have h := g13; simp only [Bool.and_eq_true] at h; exact h.2.1)
theorem k321 : KSound Tryz.prog (rowsK baseK l321) := rowsK_cons k316 c316
theorem c321 : Row.C Tryz.prog q321 := row_c k321 (by have h := g13; simp only [Bool.and_eq_true] at h; exact h.2.2.1)
theorem k325 : KSound Tryz.prog (rowsK baseK l325) := rowsK_cons k321 c321
theorem c325 : Row.C Tryz.prog q325 := row_c k325 (by have h := g13; simp only [Bool.and_eq_true] at h; exact h.2.2.2.1)
theorem k333 : KSound Tryz.prog (rowsK baseK l333) := rowsK_cons k325 c325
theorem c333 : Row.C Tryz.prog q333 := row_c k333 (by have h := g13; simp only [Bool.and_eq_true] at h; exact h.2.2.2.2.1)
theorem k347 : KSound Tryz.prog (rowsK baseK l347) := rowsK_cons k333 c333
theorem c347 : Row.C Tryz.prog q347 := row_c k347 (by have h := g14; simp only [Bool.and_eq_true] at h; exact h.1)
theorem k349 : KSound Tryz.prog (rowsK baseK l349) := rowsK_cons k347 c347
theorem c349 : Row.C Tryz.prog q349 := row_c k349 (by have h := g14; simp only [Bool.and_eq_true] at h; exact h.2.1)
theorem k350 : KSound Tryz.prog (rowsK baseK l350) := rowsK_cons k349 c349
theorem c350 : Row.C Tryz.prog q350 := row_c k350 (by have h := g15; simp only [Bool.and_eq_true] at h; exact h.1)
theorem k351 : KSound Tryz.prog (rowsK baseK l351) := rowsK_cons k350 c350
theorem c351 : Row.C Tryz.prog q351 := row_c k351 (by have h := g15; simp only [Bool.and_eq_true] at h; exact h.2.1)
theorem k352 : KSound Tryz.prog (rowsK baseK l352) := rowsK_cons k351 c351
theorem c352 : Row.C Tryz.prog q352 := row_c k352 (by have h := g15; simp only [Bool.and_eq_true] at h; exact h.2.2.1)
theorem k353 : KSound Tryz.prog (rowsK baseK l353) := rowsK_cons k352 c352
theorem c353 : Row.C Tryz.prog q353 := row_c k353 (by have h := g15; simp only [Bool.and_eq_true] at h; exact h.2.2.2.1)
theorem k354 : KSound Tryz.prog (rowsK baseK l354) := rowsK_cons k353 c353
theorem c354 : Row.C Tryz.prog q354 := row_c k354 (by have h := g15; simp only [Bool.and_eq_true] at h; exact h.2.2.2.2.1)
theorem k355 : KSound Tryz.prog (rowsK baseK l355) := rowsK_cons k354 c354
theorem c355 : Row.C Tryz.prog q355 := row_c k355 (by have h := g15; simp only [Bool.and_eq_true] at h; exact h.2.2.2.2.2.1)
theorem k356 : KSound Tryz.prog (rowsK baseK l356) := rowsK_cons k355 c355
theorem c356 : Row.C Tryz.prog q356 := row_c k356 (by have h := g15; simp only [Bool.and_eq_true] at h; exact h.2.2.2.2.2.2.1)
theorem k361 : KSound Tryz.prog (rowsK baseK l361) := rowsK_cons k356 c356
theorem c361 : Row.C Tryz.prog q361 := row_c k361 (by have h := g15; simp only [Bool.and_eq_true] at h; exact h.2.2.2.2.2.2.2.1)
theorem k362 : KSound Tryz.prog (rowsK baseK l362) := rowsK_cons k361 c361
theorem c362 : Row.C Tryz.prog q362 := row_c k362 (by have h := g15; simp only [Bool.and_eq_true] at h; exact h.2.2.2.2.2.2.2.2.1)
theorem k379 : KSound Tryz.prog (rowsK baseK l379) := rowsK_cons k362 c362
theorem c379 : Row.C Tryz.prog q379 := row_c k379 (by have h := g15; simp only [Bool.and_eq_true] at h; exact h.2.2.2.2.2.2.2.2.2.1)
theorem k391 : KSound Tryz.prog (rowsK baseK l391) := rowsK_cons k379 c379
theorem c391 : Row.C Tryz.prog q391 := row_c k391 (by have h := g16; simp only [Bool.and_eq_true] at h; exact h.1)
theorem k422 : KSound Tryz.prog (rowsK baseK l422) := rowsK_cons k391 c391
theorem c422 : Row.C Tryz.prog q422 := row_c k422 (by have h := g16; simp only [Bool.and_eq_true] at h; exact h.2.1)
theorem k424 : KSound Tryz.prog (rowsK baseK l424) := rowsK_cons k422 c422
theorem c424 : Row.C Tryz.prog q424 := row_c k424 (by have h := g16; simp only [Bool.and_eq_true] at h; exact h.2.2.1)
theorem k427 : KSound Tryz.prog (rowsK baseK l427) := rowsK_cons k424 c424
theorem c427 : Row.C Tryz.prog q427 := row_c k427 (by have h := g16; simp only [Bool.and_eq_true] at h; exact h.2.2.2.1)
theorem k452 : KSound Tryz.prog (rowsK baseK l452) := rowsK_cons k427 c427
theorem c452 : Row.C Tryz.prog q452 := row_c k452 (by have h := g16; simp only [Bool.and_eq_true] at h; exact h.2.2.2.2.1)
theorem k455 : KSound Tryz.prog (rowsK baseK l455) := rowsK_cons k452 c452
theorem c455 : Row.C Tryz.prog q455 := row_c k455 (by have h := g17; simp only [Bool.and_eq_true] at h; exact h.1)
theorem k458 : KSound Tryz.prog (rowsK baseK l458) := rowsK_cons k455 c455
theorem c458 : Row.C Tryz.prog q458 := row_c k458 (by have h := g17; simp only [Bool.and_eq_true] at h; exact h.2.1)
theorem k470 : KSound Tryz.prog (rowsK baseK l470) := rowsK_cons k458 c458
theorem c470 : Row.C Tryz.prog q470 := row_c k470 (by have h := g18; simp only [Bool.and_eq_true] at h; exact h.1)
theorem k490 : KSound Tryz.prog (rowsK baseK l490) := rowsK_cons k470 c470
theorem c490 : Row.C Tryz.prog q490 := row_c k490 (by have h := g18; simp only [Bool.and_eq_true] at h; exact h.2.1)
theorem k502 : KSound Tryz.prog (rowsK baseK l502) := rowsK_cons k490 c490
theorem c502 : Row.C Tryz.prog q502 := row_c k502 (by have h := g18; simp only [Bool.and_eq_true] at h; exact h.2.2.1)
theorem k534 : KSound Tryz.prog (rowsK baseK l534) := rowsK_cons k502 c502
theorem c534 : Row.C Tryz.prog q534 := row_c k534 (by have h := g19; simp only [Bool.and_eq_true] at h; exact h.1)
theorem k564 : KSound Tryz.prog (rowsK baseK l564) := rowsK_cons k534 c534
theorem c564 : Row.C Tryz.prog q564 := row_c k564 (by have h := g20; simp only [Bool.and_eq_true] at h; exact h.1)
theorem k567 : KSound Tryz.prog (rowsK baseK l567) := rowsK_cons k564 c564
theorem c567 : Row.C Tryz.prog q567 := row_c k567 (by have h := g21; simp only [Bool.and_eq_true] at h; exact h.1)
theorem k570 : KSound Tryz.prog (rowsK baseK l570) := rowsK_cons k567 c567
theorem c570 : Row.C Tryz.prog q570 := row_c k570 (by have h := g21; simp only [Bool.and_eq_true] at h; exact h.2.1)
theorem k572 : KSound Tryz.prog (rowsK baseK l572) := rowsK_cons k570 c570
theorem c572 : Row.C Tryz.prog q572 := row_c k572 (by have h := g21; simp only [Bool.and_eq_true] at h; exact h.2.2.1)
theorem k574 : KSound Tryz.prog (rowsK baseK l574) := rowsK_cons k572 c572
theorem c574 : Row.C Tryz.prog q574 := row_c k574 (by have h := g21; simp only [Bool.and_eq_true] at h; exact h.2.2.2.1)
theorem k576 : KSound Tryz.prog (rowsK baseK l576) := rowsK_cons k574 c574
theorem c576 : Row.C Tryz.prog q576 := row_c k576 (by have h := g21; simp only [Bool.and_eq_true] at h; exact h.2.2.2.2.1)
theorem k582 : KSound Tryz.prog (rowsK baseK l582) := rowsK_cons k576 c576
theorem c582 : Row.C Tryz.prog q582 := row_c k582 (by have h := g21; simp only [Bool.and_eq_true] at h; exact h.2.2.2.2.2.1)
theorem k617 : KSound Tryz.prog (rowsK baseK l617) := rowsK_cons k582 c582
theorem c617 : Row.C Tryz.prog q617 := row_c k617 (by have h := g22; simp only [Bool.and_eq_true] at h; exact h.1)
theorem k634 : KSound Tryz.prog (rowsK baseK l634) := rowsK_cons k617 c617
theorem c634 : Row.C Tryz.prog q634 := row_c k634 (by have h := g23; simp only [Bool.and_eq_true] at h; exact h.1)
theorem k702 : KSound Tryz.prog (rowsK baseK l702) := rowsK_cons k634 c634
theorem c702 : Row.C Tryz.prog q702 := row_c k702 (by have h := g24; simp only [Bool.and_eq_true] at h; exact h.1)
theorem k703 : KSound Tryz.prog (rowsK baseK l703) := rowsK_cons k702 c702
theorem c703 : Row.C Tryz.prog q703 := row_c k703 (by have h := g24; simp only [Bool.and_eq_true] at h; exact h.2.1)
theorem k704 : KSound Tryz.prog (rowsK baseK l704) := rowsK_cons k703 c703
theorem c704 : Row.C Tryz.prog q704 := row_c k704 (by have h := g24; simp only [Bool.and_eq_true] at h; exact h.2.2.1)
theorem k712 : KSound Tryz.prog (rowsK baseK l712) := rowsK_cons k704 c704
theorem c712 : Row.C Tryz.prog q712 := row_c k712 (by have h := g24; simp only [Bool.and_eq_true] at h; exact h.2.2.2.1)
theorem k731 : KSound Tryz.prog (rowsK baseK l731) := rowsK_cons k712 c712
theorem c731 : Row.C Tryz.prog q731 := row_c k731 (by have h := g25; simp only [Bool.and_eq_true] at h; exact h.1)
theorem k737 : KSound Tryz.prog (rowsK baseK l737) := rowsK_cons k731 c731
theorem c737 : Row.C Tryz.prog q737 := row_c k737 (by have h := g26; simp only [Bool.and_eq_true] at h; exact h.1)
theorem k747 : KSound Tryz.prog (rowsK baseK l747) := rowsK_cons k737 c737
theorem c747 : Row.C Tryz.prog q747 := row_c k747 (by have h := g27; simp only [Bool.and_eq_true] at h; exact h.1)
theorem k752 : KSound Tryz.prog (rowsK baseK l752) := rowsK_cons k747 c747
theorem c752 : Row.C Tryz.prog q752 := row_c k752 (by have h := g27; simp only [Bool.and_eq_true] at h; exact h.2.1)
theorem k754 : KSound Tryz.prog (rowsK baseK l754) := rowsK_cons k752 c752
theorem c754 : Row.C Tryz.prog q754 := row_c k754 (by have h := g28; simp only [Bool.and_eq_true] at h; exact h.1)
theorem k755 : KSound Tryz.prog (rowsK baseK l755) := rowsK_cons k754 c754
theorem c755 : Row.C Tryz.prog q755 := row_c k755 (by have h := g28; simp only [Bool.and_eq_true] at h; exact h.2.1)
theorem k758 : KSound Tryz.prog (rowsK baseK l758) := rowsK_cons k755 c755
theorem c758 : Row.C Tryz.prog q758 := row_c k758 (by have h := g28; simp only [Bool.and_eq_true] at h; exact h.2.2.1)
theorem k761 : KSound Tryz.prog (rowsK baseK l761) := rowsK_cons k758 c758
theorem c761 : Row.C Tryz.prog q761 := row_c k761 (by have h := g28; simp only [Bool.and_eq_true] at h; exact h.2.2.2.1)
theorem k762 : KSound Tryz.prog (rowsK baseK l762) := rowsK_cons k761 c761
theorem c762 : Row.C Tryz.prog q762 := row_c k762 (by have h := g28; simp only [Bool.and_eq_true] at h; exact h.2.2.2.2.1)
theorem k763 : KSound Tryz.prog (rowsK baseK l763) := rowsK_cons k762 c762
theorem c763 : Row.C Tryz.prog q763 := row_c k763 (by have h := g28; simp only [Bool.and_eq_true] at h; exact h.2.2.2.2.2.1)
theorem k764 : KSound Tryz.prog (rowsK baseK l764) := rowsK_cons k763 c763
theorem c764 : Row.C Tryz.prog q764 := row_c k764 (by have h := g28; simp only [Bool.and_eq_true] at h; exact h.2.2.2.2.2.2.1)
theorem k768 : KSound Tryz.prog (rowsK baseK l768) := rowsK_cons k764 c764
theorem c768 : Row.C Tryz.prog q768 := row_c k768 (by have h := g28; simp only [Bool.and_eq_true] at h; exact h.2.2.2.2.2.2.2.1)
theorem k770 : KSound Tryz.prog (rowsK baseK l770) := rowsK_cons k768 c768
theorem c770 : Row.C Tryz.prog q770 := row_c k770 (by have h := g28; simp only [Bool.and_eq_true] at h; exact h.2.2.2.2.2.2.2.2.1)
theorem k771 : KSound Tryz.prog (rowsK baseK l771) := rowsK_cons k770 c770
theorem c771 : Row.C Tryz.prog q771 := row_c k771 (by have h := g28; simp only [Bool.and_eq_true] at h; exact h.2.2.2.2.2.2.2.2.2.1)
theorem k772 : KSound Tryz.prog (rowsK baseK l772) := rowsK_cons k771 c771
theorem c772 : Row.C Tryz.prog q772 := row_c k772 (by have h := g28; simp only [Bool.and_eq_true] at h; exact h.2.2.2.2.2.2.2.2.2.2.1)
theorem k776 : KSound Tryz.prog (rowsK baseK l776) := rowsK_cons k772 c772
theorem c776 : Row.C Tryz.prog q776 := row_c k776 (by have h := g28; simp only [Bool.and_eq_true] at h; exact h.2.2.2.2.2.2.2.2.2.2.2.1)
theorem k777 : KSound Tryz.prog (rowsK baseK l777) := rowsK_cons k776 c776
theorem c777 : Row.C Tryz.prog q777 := row_c k777 (by have h := g28; simp only [Bool.and_eq_true] at h; exact h.2.2.2.2.2.2.2.2.2.2.2.2.1)
theorem k779 : KSound Tryz.prog (rowsK baseK l779) := rowsK_cons k777 c777
theorem c779 : Row.C Tryz.prog q779 := row_c k779 (by have h := g28; simp only [Bool.and_eq_true] at h; exact h.2.2.2.2.2.2.2.2.2.2.2.2.2.1)
theorem k783 : KSound Tryz.prog (rowsK baseK l783) := rowsK_cons k779 c779
theorem c783 : Row.C Tryz.prog q783 := row_c k783 (by have h := g28; simp only [Bool.and_eq_true] at h; exact h.2.2.2.2.2.2.2.2.2.2.2.2.2.2.1)
theorem k784 : KSound Tryz.prog (rowsK baseK l784) := rowsK_cons k783 c783
theorem c784 : Row.C Tryz.prog q784 := row_c k784 (by have h := g28; simp only [Bool.and_eq_true] at h; exact h.2.2.2.2.2.2.2.2.2.2.2.2.2.2.2.1)
theorem k785 : KSound Tryz.prog (rowsK baseK l785) := rowsK_cons k784 c784
theorem c785 : Row.C Tryz.prog q785 := row_c k785 (by have h := g28; simp only [Bool.and_eq_true] at h; exact h.2.2.2.2.2.2.2.2.2.2.2.2.2.2.2.2.1)
theorem k789 : KSound Tryz.prog (rowsK baseK l789) := rowsK_cons k785 c785
theorem c789 : Row.C Tryz.prog q789 := row_c k789 (by have h := g28; simp only [Bool.and_eq_true] at h; exact h.2.2.2.2.2.2.2.2.2.2.2.2.2.2.2.2.2.1)
theorem k794 : KSound Tryz.prog (rowsK baseK l794) := rowsK_cons k789 c789
theorem c794 : Row.C Tryz.prog q794 := row_c k794 (by have h := g28; simp only [Bool.and_eq_true] at h; exact h.2.2.2.2.2.2.2.2.2.2.2.2.2.2.2.2.2.2.1)
theorem k796 : KSound Tryz.prog (rowsK baseK l796) := rowsK_cons k794 c794
theorem c796 : Row.C Tryz.prog q796 := row_c k796 (by have h := g29; simp only [Bool.and_eq_true] at h; exact h.1)
theorem k810 : KSound Tryz.prog (rowsK baseK l810) := rowsK_cons k796 c796
theorem c810 : Row.C Tryz.prog q810 := row_c k810 (by have h := g29; simp only [Bool.and_eq_true] at h; exact h.2.1)
theorem k823 : KSound Tryz.prog (rowsK baseK l823) := rowsK_cons k810 c810
theorem c823 : Row.C Tryz.prog q823 := row_c k823 (by have h := g30; simp only [Bool.and_eq_true] at h; exact h.1)
theorem k826 : KSound Tryz.prog (rowsK baseK l826) := rowsK_cons k823 c823
theorem c826 : Row.C Tryz.prog q826 := row_c k826 (by have h := g31; simp only [Bool.and_eq_true] at h; exact h.1)
theorem k836 : KSound Tryz.prog (rowsK baseK l836) := rowsK_cons k826 c826
theorem c836 : Row.C Tryz.prog q836 := row_c k836 (by have h := g31; simp only [Bool.and_eq_true] at h; exact h.2.1)
theorem k862 : KSound Tryz.prog (rowsK baseK l862) := rowsK_cons k836 c836
theorem c862 : Row.C Tryz.prog q862 := row_c k862 (by have h := g32; simp only [Bool.and_eq_true] at h; exact h.1)
theorem k863 : KSound Tryz.prog (rowsK baseK l863) := rowsK_cons k862 c862
theorem c863 : Row.C Tryz.prog q863 := row_c k863 (by have h := g33; simp only [Bool.and_eq_true] at h; exact h.1)
theorem k865 : KSound Tryz.prog (rowsK baseK l865) := rowsK_cons k863 c863
theorem c865 : Row.C Tryz.prog q865 := row_c k865 (by have h := g33; simp only [Bool.and_eq_true] at h; exact h.2.1)
theorem k893 : KSound Tryz.prog (rowsK baseK l893) := rowsK_cons k865 c865
theorem c893 : Row.C Tryz.prog q893 := row_c k893 (by have h := g33; simp only [Bool.and_eq_true] at h; exact h.2.2.1)
theorem k895 : KSound Tryz.prog (rowsK baseK l895) := rowsK_cons k893 c893
theorem c895 : Row.C Tryz.prog q895 := row_c k895 (by have h := g34; simp only [Bool.and_eq_true] at h; exact h.1)
theorem k900 : KSound Tryz.prog (rowsK baseK l900) := rowsK_cons k895 c895
theorem c900 : Row.C Tryz.prog q900 := row_c k900 (by have h := g35; simp only [Bool.and_eq_true] at h; exact h.1)
theorem k901 : KSound Tryz.prog (rowsK baseK l901) := rowsK_cons k900 c900
theorem c901 : Row.C Tryz.prog q901 := row_c k901 (by have h := g35; simp only [Bool.and_eq_true] at h; exact h.2.1)
theorem k903 : KSound Tryz.prog (rowsK baseK l903) := rowsK_cons k901 c901
theorem c903 : Row.C Tryz.prog q903 := row_c k903 (by have h := g35; simp only [Bool.and_eq_true] at h; exact h.2.2.1)
theorem k906 : KSound Tryz.prog (rowsK baseK l906) := rowsK_cons k903 c903
theorem c906 : Row.C Tryz.prog q906 := row_c k906 (by have h := g35; simp only [Bool.and_eq_true] at h; exact h.2.2.2.1)
theorem k909 : KSound Tryz.prog (rowsK baseK l909) := rowsK_cons k906 c906
theorem c909 : Row.C Tryz.prog q909 := row_c k909 (by have h := g35; simp only [Bool.and_eq_true] at h; exact h.2.2.2.2.1)
theorem k922 : KSound Tryz.prog (rowsK baseK l922) := rowsK_cons k909 c909
theorem c922 : Row.C Tryz.prog q922 := row_c k922 (by have h := g36; simp only [Bool.and_eq_true] at h; exact h.1)
theorem k934 : KSound Tryz.prog (rowsK baseK l934) := rowsK_cons k922 c922
theorem c934 : Row.C Tryz.prog q934 := row_c k934 (by have h := g36; simp only [Bool.and_eq_true] at h; exact h.2.1)
theorem k954 : KSound Tryz.prog (rowsK baseK l954) := rowsK_cons k934 c934
theorem c954 : Row.C Tryz.prog q954 := row_c k954 (by have h := g37; simp only [Bool.and_eq_true] at h; exact h.1)
theorem k971 : KSound Tryz.prog (rowsK baseK l971) := rowsK_cons k954 c954
theorem c971 : Row.C Tryz.prog q971 := row_c k971 (by have h := g37; simp only [Bool.and_eq_true] at h; exact h.2.1)
theorem k974 : KSound Tryz.prog (rowsK baseK l974) := rowsK_cons k971 c971
theorem c974 : Row.C Tryz.prog q974 := row_c k974 (by have h := g38; simp only [Bool.and_eq_true] at h; exact h.1)
theorem k976 : KSound Tryz.prog (rowsK baseK l976) := rowsK_cons k974 c974
theorem c976 : Row.C Tryz.prog q976 := row_c k976 (by have h := g38; simp only [Bool.and_eq_true] at h; exact h.2.1)
theorem k977 : KSound Tryz.prog (rowsK baseK l977) := rowsK_cons k976 c976
theorem c977 : Row.C Tryz.prog q977 := row_c k977 (by have h := g38; simp only [Bool.and_eq_true] at h; exact h.2.2.1)
theorem k978 : KSound Tryz.prog (rowsK baseK l978) := rowsK_cons k977 c977
theorem c978 : Row.C Tryz.prog q978 := row_c k978 (by have h := g38; simp only [Bool.and_eq_true] at h; exact h.2.2.2.1)
theorem k979 : KSound Tryz.prog (rowsK baseK l979) := rowsK_cons k978 c978
theorem c979 : Row.C Tryz.prog q979 := row_c k979 (by have h := g38; simp only [Bool.and_eq_true] at h; exact h.2.2.2.2.1)
theorem k982 : KSound Tryz.prog (rowsK baseK l982) := rowsK_cons k979 c979
theorem c982 : Row.C Tryz.prog q982 := row_c k982 (by have h := g38; simp only [Bool.and_eq_true] at h; exact h.2.2.2.2.2.1)
theorem k987 : KSound Tryz.prog (rowsK baseK l987) := rowsK_cons k982 c982
theorem c987 : Row.C Tryz.prog q987 := row_c k987 (by have h := g38; simp only [Bool.and_eq_true] at h; exact h.2.2.2.2.2.2.1)
theorem k990 : KSound Tryz.prog (rowsK baseK l990) := rowsK_cons k987 c987
theorem c990 : Row.C Tryz.prog q990 := row_c k990 (by have h := g38; simp only [Bool.and_eq_true] at h; exact h.2.2.2.2.2.2.2.1)
theorem k991 : KSound Tryz.prog (rowsK baseK l991) := rowsK_cons k990 c990
theorem c991 : Row.C Tryz.prog q991 := row_c k991 (by have h := g38; simp only [Bool.and_eq_true] at h; exact h.2.2.2.2.2.2.2.2.1)
theorem k994 : KSound Tryz.prog (rowsK baseK l994) := rowsK_cons k991 c991
theorem c994 : Row.C Tryz.prog q994 := row_c k994 (by have h := g39; simp only [Bool.and_eq_true] at h; exact h.1)
end Go.Proofs.YtmfodaenlkcjdaaGreatDoor
