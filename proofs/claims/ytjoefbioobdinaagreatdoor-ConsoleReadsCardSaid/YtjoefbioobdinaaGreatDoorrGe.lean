/-
  Texts that the claim leans on: Kc, Wk.
-/
import Derived.Test.YtjoefbioobdinaaGreatDoorrh
import Derived.Test.YtjoefbioobdinaaGreatDoorrG0
import Derived.Test.YtjoefbioobdinaaGreatDoorrG1
import Derived.Test.YtjoefbioobdinaaGreatDoorrG2
import Derived.Test.YtjoefbioobdinaaGreatDoorrG3
import Derived.Test.YtjoefbioobdinaaGreatDoorrG4
namespace Go.Proofs.YtjoefbioobdinaaGreatDoor
open Go.RowKit Am
theorem k30:aX Tryz.prog (aM aO l30):=Oi
theorem c30:Row.C Tryz.prog q30:=bS k30 (by have h:=g0;simp only [Bool.and_eq_true] at h;exact h.1)
theorem k31:aX Tryz.prog (aM aO l31):=aD k30 c30
theorem c31:Row.C Tryz.prog q31:=bS k31 (by have h:=g0;simp only [Bool.and_eq_true] at h;exact h.2.1)
theorem k38:aX Tryz.prog (aM aO l38):=aD k31 c31
theorem c38:Row.C Tryz.prog q38:=bS k38 (by have h:=g0;simp only [Bool.and_eq_true] at h;exact h.2.2.1)
theorem k40:aX Tryz.prog (aM aO l40):=aD k38 c38
theorem c40:Row.C Tryz.prog q40:=bS k40 (by have h:=g0;simp only [Bool.and_eq_true] at h;exact h.2.2.2.1)
theorem k58:aX Tryz.prog (aM aO l58):=aD k40 c40
theorem c58:Row.C Tryz.prog q58:=bS k58 (by have h:=g0;simp only [Bool.and_eq_true] at h;exact h.2.2.2.2.1)
theorem k76:aX Tryz.prog (aM aO l76):=aD k58 c58
theorem c76:Row.C Tryz.prog q76:=bS k76 (by have h:=g1;simp only [Bool.and_eq_true] at h;exact h.1)
theorem Ye:aX Tryz.prog (aM aO Vi):=aD k76 c76
theorem aaU:Row.C Tryz.prog Ul:=bS Ye (by have h:=g1;simp only [Bool.and_eq_true] at h;exact h.2.1)
theorem Yf:aX Tryz.prog (aM aO Vj):=aD Ye aaU
theorem c116:Row.C Tryz.prog Um:=bS Yf (by have h:=g1;simp only [Bool.and_eq_true] at h;exact h.2.2.1)
theorem Yg:aX Tryz.prog (aM aO Vk):=aD Yf c116
theorem c124:Row.C Tryz.prog Un:=bS Yg (by have h:=g2;simp only [Bool.and_eq_true] at h;exact h.1)
theorem Yh:aX Tryz.prog (aM aO Vl):=aD Yg c124
theorem c154:Row.C Tryz.prog Uo:=bS Yh (by have h:=g3;simp only [Bool.and_eq_true] at h;exact h.1)
theorem Yi:aX Tryz.prog (aM aO Vm):=aD Yh c154
theorem c157:Row.C Tryz.prog Uq:=bS Yi (by have h:=g3;simp only [Bool.and_eq_true] at h;exact h.2.1)
theorem Yj:aX Tryz.prog (aM aO Vn):=aD Yi c157
theorem aaV:Row.C Tryz.prog Ur:=bS Yj (by have h:=g3;simp only [Bool.and_eq_true] at h;exact h.2.2.1)
theorem Yk:aX Tryz.prog (aM aO Vo):=aD Yj aaV
theorem c198:Row.C Tryz.prog Us:=bS Yk (by have h:=g4;simp only [Bool.and_eq_true] at h;exact h.1)
theorem Yl:aX Tryz.prog (aM aO Vp):=aD Yk c198
theorem c203:Row.C Tryz.prog Ut:=bS Yl (by have h:=g4;simp only [Bool.and_eq_true] at h;exact h.2.1)
theorem Ym:aX Tryz.prog (aM aO Vq):=aD Yl c203
theorem aaW:Row.C Tryz.prog Uu:=bS Ym (by have h:=g4;simp only [Bool.and_eq_true] at h;exact h.2.2.1)
theorem Yn:aX Tryz.prog (aM aO Vr):=aD Ym aaW
theorem aaX:Row.C Tryz.prog Uv:=bS Yn (by have h:=g4;simp only [Bool.and_eq_true] at h;exact h.2.2.2.1)
theorem Yo:aX Tryz.prog (aM aO Vs):=aD Yn aaX
theorem c213:Row.C Tryz.prog Uw:=bS Yo (by have h:=g4;simp only [Bool.and_eq_true] at h;exact h.2.2.2.2.1)
theorem Yp:aX Tryz.prog (aM aO Vt):=aD Yo c213
theorem c218:Row.C Tryz.prog Ux:=bS Yp (by have h:=g4;simp only [Bool.and_eq_true] at h;exact h.2.2.2.2.2.1)
theorem Yq:aX Tryz.prog (aM aO Vu):=aD Yp c218
theorem aaY:Row.C Tryz.prog Uy:=bS Yq (by have h:=g4;simp only [Bool.and_eq_true] at h;exact h.2.2.2.2.2.2.1)
theorem Yr:aX Tryz.prog (aM aO Vv):=aD Yq aaY
theorem c222:Row.C Tryz.prog Uz:=bS Yr (by have h:=g4;simp only [Bool.and_eq_true] at h;exact h.2.2.2.2.2.2.2.1)
theorem Yt:aX Tryz.prog (aM aO Vw):=aD Yr c222
theorem c226:Row.C Tryz.prog UA:=bS Yt (by have h:=g4;simp only [Bool.and_eq_true] at h;exact h.2.2.2.2.2.2.2.2.1)
theorem Yu:aX Tryz.prog (aM aO Vx):=aD Yt c226
theorem c228:Row.C Tryz.prog UC:=bS Yu (by have h:=g4;simp only [Bool.and_eq_true] at h;exact h.2.2.2.2.2.2.2.2.2.1)
theorem Yv:aX Tryz.prog (aM aO Vy):=aD Yu c228
theorem c236:Row.C Tryz.prog UD:=bS Yv (by have h:=g5;simp only [Bool.and_eq_true] at h;exact h.1)
theorem Yw:aX Tryz.prog (aM aO Vz):=aD Yv c236
theorem aaZ:Row.C Tryz.prog UE:=bS Yw (by have h:=g5;simp only [Bool.and_eq_true] at h;exact h.2.1)
theorem Yx:aX Tryz.prog (aM aO VA):=aD Yw aaZ
theorem abb:Row.C Tryz.prog UF:=bS Yx (by have h:=g5;simp only [Bool.and_eq_true] at h;exact h.2.2.1)
theorem Yy:aX Tryz.prog (aM aO VB):=aD Yx abb
theorem abd:Row.C Tryz.prog UG:=bS Yy (by have h:=g6;simp only [Bool.and_eq_true] at h;exact h.1)
theorem Yz:aX Tryz.prog (aM aO VD):=aD Yy abd
theorem abe:Row.C Tryz.prog UH:=bS Yz (by have h:=g6;simp only [Bool.and_eq_true] at h;exact h.2.1)
theorem YA:aX Tryz.prog (aM aO VE):=aD Yz abe
theorem abf:Row.C Tryz.prog UJ:=bS YA (by have h:=g7;simp only [Bool.and_eq_true] at h;exact h.1)
theorem YB:aX Tryz.prog (aM aO VF):=aD YA abf
theorem abg:Row.C Tryz.prog UK:=bS YB (by have h:=g7;simp only [Bool.and_eq_true] at h;exact h.2.1)
theorem YC:aX Tryz.prog (aM aO VG):=aD YB abg
theorem abh:Row.C Tryz.prog UL:=bS YC (by have h:=g7;simp only [Bool.and_eq_true] at h;exact h.2.2.1)
theorem YD:aX Tryz.prog (aM aO VH):=aD YC abh
theorem abj:Row.C Tryz.prog UM:=bS YD (by have h:=g8;simp only [Bool.and_eq_true] at h;exact h.1)
theorem YE:aX Tryz.prog (aM aO VI):=aD YD abj
theorem abk:Row.C Tryz.prog UN:=bS YE (by have h:=g8;simp only [Bool.and_eq_true] at h;exact h.2.1)
theorem YF:aX Tryz.prog (aM aO VJ):=aD YE abk
theorem abl:Row.C Tryz.prog UO:=bS YF (by have h:=g8;simp only [Bool.and_eq_true] at h;exact h.2.2.1)
theorem YG:aX Tryz.prog (aM aO VL):=aD YF abl
theorem abm:Row.C Tryz.prog UQ:=bS YG (by have h:=g9;simp only [Bool.and_eq_true] at h;exact h.1)
theorem YH:aX Tryz.prog (aM aO VN):=aD YG abm
theorem abn:Row.C Tryz.prog UR:=bS YH (by have h:=g10;simp only [Bool.and_eq_true] at h;exact h.1)
theorem YI:aX Tryz.prog (aM aO VO):=aD YH abn
theorem abo:Row.C Tryz.prog UU:=bS YI (by have h:=g10;simp only [Bool.and_eq_true] at h;exact h.2.1)
theorem YJ:aX Tryz.prog (aM aO VP):=aD YI abo
theorem abp:Row.C Tryz.prog UW:=bS YJ (by have h:=g10;simp only [Bool.and_eq_true] at h;exact h.2.2.1)
theorem YK:aX Tryz.prog (aM aO VQ):=aD YJ abp
theorem abq:Row.C Tryz.prog UY:=bS YK (by have h:=g10;simp only [Bool.and_eq_true] at h;exact h.2.2.2.1)
theorem YL:aX Tryz.prog (aM aO VT):=aD YK abq
theorem abr:Row.C Tryz.prog UZ:=bS YL (by have h:=g10;simp only [Bool.and_eq_true] at h;exact h.2.2.2.2.1)
theorem YM:aX Tryz.prog (aM aO VU):=aD YL abr
theorem abt:Row.C Tryz.prog U0:=bS YM (by have h:=g10;simp only [Bool.and_eq_true] at h;exact h.2.2.2.2.2.1)
theorem YN:aX Tryz.prog (aM aO VW):=aD YM abt
theorem abu:Row.C Tryz.prog U1:=bS YN (by have h:=g11;simp only [Bool.and_eq_true] at h;exact h.1)
theorem YO:aX Tryz.prog (aM aO VX):=aD YN abu
theorem abv:Row.C Tryz.prog U2:=bS YO (by have h:=g11;simp only [Bool.and_eq_true] at h;exact h.2.1)
theorem YP:aX Tryz.prog (aM aO VY):=aD YO abv
theorem abw:Row.C Tryz.prog U3:=bS YP (by have h:=g11;simp only [Bool.and_eq_true] at h;exact h.2.2.1)
theorem YQ:aX Tryz.prog (aM aO VZ):=aD YP abw
theorem abx:Row.C Tryz.prog U4:=bS YQ (by have h:=g12;simp only [Bool.and_eq_true] at h;exact h.1)
theorem YR:aX Tryz.prog (aM aO V3):=aD YQ abx
theorem aby:Row.C Tryz.prog U5:=bS YR (by have h:=g13;simp only [Bool.and_eq_true] at h;exact h.1)
theorem YS:aX Tryz.prog (aM aO V4):=aD YR aby
theorem abz:Row.C Tryz.prog U6:=bS YS (by have h:=g13;simp only [Bool.and_eq_true] at h;exact h.2.1)
theorem YT:aX Tryz.prog (aM aO V5):=aD YS abz
theorem abA:Row.C Tryz.prog U7:=bS YT (by have h:=g13;simp only [Bool.and_eq_true] at h;exact h.2.2.1)
theorem YU:aX Tryz.prog (aM aO V6):=aD YT abA
theorem abB:Row.C Tryz.prog U8:=bS YU (by have h:=g13;simp only [Bool.and_eq_true] at h;exact h.2.2.2.1)
theorem YV:aX Tryz.prog (aM aO V7):=aD YU abB
theorem abC:Row.C Tryz.prog U9:=bS YV (by have h:=g14;simp only [Bool.and_eq_true] at h;exact h.1)
theorem YW:aX Tryz.prog (aM aO V8):=aD YV abC
theorem abD:Row.C Tryz.prog Va:=bS YW (by have h:=g15;simp only [Bool.and_eq_true] at h;exact h.1)
theorem YX:aX Tryz.prog (aM aO V9):=aD YW abD
theorem abE:Row.C Tryz.prog Vb:=bS YX (by have h:=g16;simp only [Bool.and_eq_true] at h;exact h.1)
theorem YZ:aX Tryz.prog (aM aO Wd):=aD YX abE
theorem abF:Row.C Tryz.prog Vd:=bS YZ (by have h:=g16;simp only [Bool.and_eq_true] at h;exact h.2.1)
theorem Y0:aX Tryz.prog (aM aO Wh):=aD YZ abF
theorem abG:Row.C Tryz.prog Ve:=bS Y0 (by have h:=g17;simp only [Bool.and_eq_true] at h;exact h.1)
theorem Y1:aX Tryz.prog (aM aO Wi):=aD Y0 abG
theorem abH:Row.C Tryz.prog Vf:=bS Y1 (by have h:=g17;simp only [Bool.and_eq_true] at h;exact h.2.1)
theorem Y2:aX Tryz.prog (aM aO Wj):=aD Y1 abH
theorem abI:Row.C Tryz.prog Vg:=bS Y2 (by have h:=g17;simp only [Bool.and_eq_true] at h;exact h.2.2.1)
theorem Y3:aX Tryz.prog (aM aO Wm):=aD Y2 abI
theorem abJ:Row.C Tryz.prog Vh:=bS Y3 (by have h:=g17;simp only [Bool.and_eq_true] at h;exact h.2.2.2.1)
theorem abK:aX Tryz.prog (aM aO Yd):=aD Y3 abJ
theorem abL:Row.C Tryz.prog Yc:=bS abK (by have h:=g17;simp only [Bool.and_eq_true] at h;exact h.2.2.2.2.1)
theorem Wn:bY Tryz.prog 6 (e0 (some (.bool true,[]))):=by
 refine Q9 fun y c hg hc=>?_;simp only [Option.some.injEq,Prod.mk.injEq] at hg;obtain ⟨rfl,rfl⟩:=hg;exact abL
end Go.Proofs.YtjoefbioobdinaaGreatDoor
