/-
  Texts that the claim leans on: Kc, Wk.
-/
import Derived.Test.YtjoefbioobdinaaGreatDoorwh
import Derived.Test.YtjoefbioobdinaaGreatDoorwG0
import Derived.Test.YtjoefbioobdinaaGreatDoorwG1
import Derived.Test.YtjoefbioobdinaaGreatDoorwG2
import Derived.Test.YtjoefbioobdinaaGreatDoorwG3
import Derived.Test.YtjoefbioobdinaaGreatDoorwG4
namespace Go.Proofs.YtjoefbioobdinaaGreatDoor
open Go.RowKit Am
theorem k30:aZ Tryz.prog (aO aQ l30):=Nw
theorem c30:Row.C Tryz.prog q30:=bZ k30 (by have h:=g0;simp only [Bool.and_eq_true] at h;exact h.1)
theorem k31:aZ Tryz.prog (aO aQ l31):=aD k30 c30
theorem c31:Row.C Tryz.prog q31:=bZ k31 (by have h:=g0;simp only [Bool.and_eq_true] at h;exact h.2.1)
theorem k38:aZ Tryz.prog (aO aQ l38):=aD k31 c31
theorem c38:Row.C Tryz.prog q38:=bZ k38 (by have h:=g0;simp only [Bool.and_eq_true] at h;exact h.2.2.1)
theorem k40:aZ Tryz.prog (aO aQ l40):=aD k38 c38
theorem c40:Row.C Tryz.prog q40:=bZ k40 (by have h:=g0;simp only [Bool.and_eq_true] at h;exact h.2.2.2.1)
theorem k58:aZ Tryz.prog (aO aQ l58):=aD k40 c40
theorem c58:Row.C Tryz.prog q58:=bZ k58 (by have h:=g0;simp only [Bool.and_eq_true] at h;exact h.2.2.2.2.1)
theorem k76:aZ Tryz.prog (aO aQ l76):=aD k58 c58
theorem c76:Row.C Tryz.prog q76:=bZ k76 (by have h:=g1;simp only [Bool.and_eq_true] at h;exact h.1)
theorem XC:aZ Tryz.prog (aO aQ Uv):=aD k76 c76
theorem aal:Row.C Tryz.prog Tn:=bZ XC (by have h:=g1;simp only [Bool.and_eq_true] at h;exact h.2.1)
theorem XD:aZ Tryz.prog (aO aQ Uw):=aD XC aal
theorem c116:Row.C Tryz.prog Tp:=bZ XD (by have h:=g1;simp only [Bool.and_eq_true] at h;exact h.2.2.1)
theorem XE:aZ Tryz.prog (aO aQ Ux):=aD XD c116
theorem c124:Row.C Tryz.prog Tq:=bZ XE (by have h:=g2;simp only [Bool.and_eq_true] at h;exact h.1)
theorem XF:aZ Tryz.prog (aO aQ Uy):=aD XE c124
theorem c154:Row.C Tryz.prog Tt:=bZ XF (by have h:=g3;simp only [Bool.and_eq_true] at h;exact h.1)
theorem XG:aZ Tryz.prog (aO aQ Uz):=aD XF c154
theorem c157:Row.C Tryz.prog Tv:=bZ XG (by have h:=g3;simp only [Bool.and_eq_true] at h;exact h.2.1)
theorem XH:aZ Tryz.prog (aO aQ UA):=aD XG c157
theorem aam:Row.C Tryz.prog Tw:=bZ XH (by have h:=g3;simp only [Bool.and_eq_true] at h;exact h.2.2.1)
theorem XI:aZ Tryz.prog (aO aQ UC):=aD XH aam
theorem c198:Row.C Tryz.prog Tx:=bZ XI (by have h:=g4;simp only [Bool.and_eq_true] at h;exact h.1)
theorem XJ:aZ Tryz.prog (aO aQ UD):=aD XI c198
theorem c203:Row.C Tryz.prog Tz:=bZ XJ (by have h:=g4;simp only [Bool.and_eq_true] at h;exact h.2.1)
theorem XK:aZ Tryz.prog (aO aQ UE):=aD XJ c203
theorem aan:Row.C Tryz.prog TA:=bZ XK (by have h:=g4;simp only [Bool.and_eq_true] at h;exact h.2.2.1)
theorem XL:aZ Tryz.prog (aO aQ UF):=aD XK aan
theorem aao:Row.C Tryz.prog TB:=bZ XL (by have h:=g4;simp only [Bool.and_eq_true] at h;exact h.2.2.2.1)
theorem XM:aZ Tryz.prog (aO aQ UG):=aD XL aao
theorem c213:Row.C Tryz.prog TD:=bZ XM (by have h:=g4;simp only [Bool.and_eq_true] at h;exact h.2.2.2.2.1)
theorem XO:aZ Tryz.prog (aO aQ UH):=aD XM c213
theorem c218:Row.C Tryz.prog TF:=bZ XO (by have h:=g4;simp only [Bool.and_eq_true] at h;exact h.2.2.2.2.2.1)
theorem XP:aZ Tryz.prog (aO aQ UJ):=aD XO c218
theorem aap:Row.C Tryz.prog TG:=bZ XP (by have h:=g4;simp only [Bool.and_eq_true] at h;exact h.2.2.2.2.2.2.1)
theorem XQ:aZ Tryz.prog (aO aQ UK):=aD XP aap
theorem c222:Row.C Tryz.prog TH:=bZ XQ (by have h:=g4;simp only [Bool.and_eq_true] at h;exact h.2.2.2.2.2.2.2.1)
theorem XR:aZ Tryz.prog (aO aQ UL):=aD XQ c222
theorem c226:Row.C Tryz.prog TI:=bZ XR (by have h:=g4;simp only [Bool.and_eq_true] at h;exact h.2.2.2.2.2.2.2.2.1)
theorem XT:aZ Tryz.prog (aO aQ UM):=aD XR c226
theorem c228:Row.C Tryz.prog TJ:=bZ XT (by have h:=g4;simp only [Bool.and_eq_true] at h;exact h.2.2.2.2.2.2.2.2.2.1)
theorem XU:aZ Tryz.prog (aO aQ UN):=aD XT c228
theorem c236:Row.C Tryz.prog TK:=bZ XU (by have h:=g5;simp only [Bool.and_eq_true] at h;exact h.1)
theorem XV:aZ Tryz.prog (aO aQ UO):=aD XU c236
theorem aaq:Row.C Tryz.prog TL:=bZ XV (by have h:=g5;simp only [Bool.and_eq_true] at h;exact h.2.1)
theorem XW:aZ Tryz.prog (aO aQ UQ):=aD XV aaq
theorem aar:Row.C Tryz.prog TM:=bZ XW (by have h:=g5;simp only [Bool.and_eq_true] at h;exact h.2.2.1)
theorem XY:aZ Tryz.prog (aO aQ UR):=aD XW aar
theorem aas:Row.C Tryz.prog TN:=bZ XY (by have h:=g6;simp only [Bool.and_eq_true] at h;exact h.1)
theorem XZ:aZ Tryz.prog (aO aQ UU):=aD XY aas
theorem aat:Row.C Tryz.prog TP:=bZ XZ (by have h:=g6;simp only [Bool.and_eq_true] at h;exact h.2.1)
theorem X0:aZ Tryz.prog (aO aQ UW):=aD XZ aat
theorem aau:Row.C Tryz.prog TQ:=bZ X0 (by have h:=g7;simp only [Bool.and_eq_true] at h;exact h.1)
theorem X3:aZ Tryz.prog (aO aQ UY):=aD X0 aau
theorem aav:Row.C Tryz.prog TR:=bZ X3 (by have h:=g7;simp only [Bool.and_eq_true] at h;exact h.2.1)
theorem X4:aZ Tryz.prog (aO aQ UZ):=aD X3 aav
theorem aaw:Row.C Tryz.prog TS:=bZ X4 (by have h:=g7;simp only [Bool.and_eq_true] at h;exact h.2.2.1)
theorem X5:aZ Tryz.prog (aO aQ U0):=aD X4 aaw
theorem aax:Row.C Tryz.prog TT:=bZ X5 (by have h:=g8;simp only [Bool.and_eq_true] at h;exact h.1)
theorem X6:aZ Tryz.prog (aO aQ U1):=aD X5 aax
theorem aay:Row.C Tryz.prog TU:=bZ X6 (by have h:=g8;simp only [Bool.and_eq_true] at h;exact h.2.1)
theorem X7:aZ Tryz.prog (aO aQ U2):=aD X6 aay
theorem aaz:Row.C Tryz.prog TV:=bZ X7 (by have h:=g8;simp only [Bool.and_eq_true] at h;exact h.2.2.1)
theorem X8:aZ Tryz.prog (aO aQ U3):=aD X7 aaz
theorem aaA:Row.C Tryz.prog TW:=bZ X8 (by have h:=g9;simp only [Bool.and_eq_true] at h;exact h.1)
theorem X9:aZ Tryz.prog (aO aQ U4):=aD X8 aaA
theorem aaB:Row.C Tryz.prog TY:=bZ X9 (by have h:=g10;simp only [Bool.and_eq_true] at h;exact h.1)
theorem Ya:aZ Tryz.prog (aO aQ U5):=aD X9 aaB
theorem aaC:Row.C Tryz.prog T9:=bZ Ya (by have h:=g10;simp only [Bool.and_eq_true] at h;exact h.2.1)
theorem Yb:aZ Tryz.prog (aO aQ U6):=aD Ya aaC
theorem aaD:Row.C Tryz.prog Ua:=bZ Yb (by have h:=g10;simp only [Bool.and_eq_true] at h;exact h.2.2.1)
theorem Yc:aZ Tryz.prog (aO aQ U7):=aD Yb aaD
theorem aaE:Row.C Tryz.prog Ub:=bZ Yc (by have h:=g10;simp only [Bool.and_eq_true] at h;exact h.2.2.2.1)
theorem Yd:aZ Tryz.prog (aO aQ U8):=aD Yc aaE
theorem aaF:Row.C Tryz.prog Uc:=bZ Yd (by have h:=g10;simp only [Bool.and_eq_true] at h;exact h.2.2.2.2.1)
theorem Ye:aZ Tryz.prog (aO aQ U9):=aD Yd aaF
theorem aaG:Row.C Tryz.prog Ud:=bZ Ye (by have h:=g10;simp only [Bool.and_eq_true] at h;exact h.2.2.2.2.2.1)
theorem Yf:aZ Tryz.prog (aO aQ Va):=aD Ye aaG
theorem aaH:Row.C Tryz.prog Ue:=bZ Yf (by have h:=g11;simp only [Bool.and_eq_true] at h;exact h.1)
theorem Yg:aZ Tryz.prog (aO aQ Vb):=aD Yf aaH
theorem aaI:Row.C Tryz.prog Uf:=bZ Yg (by have h:=g11;simp only [Bool.and_eq_true] at h;exact h.2.1)
theorem Yh:aZ Tryz.prog (aO aQ Vd):=aD Yg aaI
theorem aaJ:Row.C Tryz.prog Ug:=bZ Yh (by have h:=g11;simp only [Bool.and_eq_true] at h;exact h.2.2.1)
theorem Yi:aZ Tryz.prog (aO aQ Ve):=aD Yh aaJ
theorem aaK:Row.C Tryz.prog Uh:=bZ Yi (by have h:=g12;simp only [Bool.and_eq_true] at h;exact h.1)
theorem Yj:aZ Tryz.prog (aO aQ Vf):=aD Yi aaK
theorem aaL:Row.C Tryz.prog Ui:=bZ Yj (by have h:=g13;simp only [Bool.and_eq_true] at h;exact h.1)
theorem Yk:aZ Tryz.prog (aO aQ Vg):=aD Yj aaL
theorem aaM:Row.C Tryz.prog Uj:=bZ Yk (by have h:=g13;simp only [Bool.and_eq_true] at h;exact h.2.1)
theorem Yl:aZ Tryz.prog (aO aQ Vh):=aD Yk aaM
theorem aaN:Row.C Tryz.prog Uk:=bZ Yl (by have h:=g13;simp only [Bool.and_eq_true] at h;exact h.2.2.1)
theorem Ym:aZ Tryz.prog (aO aQ Vi):=aD Yl aaN
theorem aaO:Row.C Tryz.prog Ul:=bZ Ym (by have h:=g13;simp only [Bool.and_eq_true] at h;exact h.2.2.2.1)
theorem Yn:aZ Tryz.prog (aO aQ Vj):=aD Ym aaO
theorem aaP:Row.C Tryz.prog Um:=bZ Yn (by have h:=g14;simp only [Bool.and_eq_true] at h;exact h.1)
theorem Yo:aZ Tryz.prog (aO aQ Vk):=aD Yn aaP
theorem aaQ:Row.C Tryz.prog Un:=bZ Yo (by have h:=g15;simp only [Bool.and_eq_true] at h;exact h.1)
theorem Yp:aZ Tryz.prog (aO aQ Vl):=aD Yo aaQ
theorem aaR:Row.C Tryz.prog Uo:=bZ Yp (by have h:=g16;simp only [Bool.and_eq_true] at h;exact h.1)
theorem Yq:aZ Tryz.prog (aO aQ Vm):=aD Yp aaR
theorem aaS:Row.C Tryz.prog Uq:=bZ Yq (by have h:=g16;simp only [Bool.and_eq_true] at h;exact h.2.1)
theorem Yr:aZ Tryz.prog (aO aQ Vn):=aD Yq aaS
theorem aaT:Row.C Tryz.prog Ur:=bZ Yr (by have h:=g17;simp only [Bool.and_eq_true] at h;exact h.1)
theorem Yt:aZ Tryz.prog (aO aQ Vo):=aD Yr aaT
theorem aaU:Row.C Tryz.prog Us:=bZ Yt (by have h:=g17;simp only [Bool.and_eq_true] at h;exact h.2.1)
theorem Yu:aZ Tryz.prog (aO aQ Vp):=aD Yt aaU
theorem aaV:Row.C Tryz.prog Ut:=bZ Yu (by have h:=g17;simp only [Bool.and_eq_true] at h;exact h.2.2.1)
theorem Yv:aZ Tryz.prog (aO aQ Vq):=aD Yu aaV
theorem aaW:Row.C Tryz.prog Uu:=bZ Yv (by have h:=g17;simp only [Bool.and_eq_true] at h;exact h.2.2.2.1)
theorem aaX:aZ Tryz.prog (aO aQ XB):=aD Yv aaW
theorem aaY:Row.C Tryz.prog XA:=bZ aaX (by have h:=g17;simp only [Bool.and_eq_true] at h;exact h.2.2.2.2.1)
theorem Vr:cK Tryz.prog 6 (e0 (some (.bool true,[]))):=by
 refine QE fun y c hg hc=>?_;simp only [Option.some.injEq,Prod.mk.injEq] at hg;obtain ⟨rfl,rfl⟩:=hg;exact aaY
end Go.Proofs.YtjoefbioobdinaaGreatDoor
