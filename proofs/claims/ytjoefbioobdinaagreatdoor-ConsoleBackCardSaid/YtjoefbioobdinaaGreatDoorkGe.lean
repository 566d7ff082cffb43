/-
  Texts that the claim leans on: Kc, Wk.
-/
import Derived.Test.YtjoefbioobdinaaGreatDoorkh
import Derived.Test.YtjoefbioobdinaaGreatDoorkG0
import Derived.Test.YtjoefbioobdinaaGreatDoorkG1
import Derived.Test.YtjoefbioobdinaaGreatDoorkG2
import Derived.Test.YtjoefbioobdinaaGreatDoorkG3
import Derived.Test.YtjoefbioobdinaaGreatDoorkG4
namespace Go.Proofs.YtjoefbioobdinaaGreatDoor
open Go.RowKit Am
theorem k30:aW Tryz.prog (aJ aK ZQ):=M9
theorem c30:Row.C Tryz.prog ZK:=bO k30 (by have h:=g0;simp only [Bool.and_eq_true] at h;exact h.1)
theorem k31:aW Tryz.prog (aJ aK ZR):=ay k30 c30
theorem c31:Row.C Tryz.prog ZL:=bO k31 (by have h:=g0;simp only [Bool.and_eq_true] at h;exact h.2.1)
theorem k38:aW Tryz.prog (aJ aK ZT):=ay k31 c31
theorem c38:Row.C Tryz.prog ZM:=bO k38 (by have h:=g0;simp only [Bool.and_eq_true] at h;exact h.2.2.1)
theorem k40:aW Tryz.prog (aJ aK ZU):=ay k38 c38
theorem c40:Row.C Tryz.prog ZN:=bO k40 (by have h:=g0;simp only [Bool.and_eq_true] at h;exact h.2.2.2.1)
theorem k58:aW Tryz.prog (aJ aK ZV):=ay k40 c40
theorem c58:Row.C Tryz.prog ZO:=bO k58 (by have h:=g0;simp only [Bool.and_eq_true] at h;exact h.2.2.2.2.1)
theorem k76:aW Tryz.prog (aJ aK ZW):=ay k58 c58
theorem c76:Row.C Tryz.prog ZP:=bO k76 (by have h:=g1;simp only [Bool.and_eq_true] at h;exact h.1)
theorem WZ:aW Tryz.prog (aJ aK TY):=ay k76 c76
theorem ZX:Row.C Tryz.prog SG:=bO WZ (by have h:=g1;simp only [Bool.and_eq_true] at h;exact h.2.1)
theorem W9:aW Tryz.prog (aJ aK T9):=ay WZ ZX
theorem c116:Row.C Tryz.prog SH:=bO W9 (by have h:=g1;simp only [Bool.and_eq_true] at h;exact h.2.2.1)
theorem Xa:aW Tryz.prog (aJ aK Ua):=ay W9 c116
theorem c124:Row.C Tryz.prog SI:=bO Xa (by have h:=g2;simp only [Bool.and_eq_true] at h;exact h.1)
theorem Xb:aW Tryz.prog (aJ aK Ub):=ay Xa c124
theorem c154:Row.C Tryz.prog SK:=bO Xb (by have h:=g3;simp only [Bool.and_eq_true] at h;exact h.1)
theorem Xc:aW Tryz.prog (aJ aK Uc):=ay Xb c154
theorem c157:Row.C Tryz.prog SL:=bO Xc (by have h:=g3;simp only [Bool.and_eq_true] at h;exact h.2.1)
theorem Xd:aW Tryz.prog (aJ aK Ud):=ay Xc c157
theorem ZY:Row.C Tryz.prog SN:=bO Xd (by have h:=g3;simp only [Bool.and_eq_true] at h;exact h.2.2.1)
theorem Xe:aW Tryz.prog (aJ aK Ue):=ay Xd ZY
theorem c198:Row.C Tryz.prog SQ:=bO Xe (by have h:=g4;simp only [Bool.and_eq_true] at h;exact h.1)
theorem Xf:aW Tryz.prog (aJ aK Uf):=ay Xe c198
theorem c203:Row.C Tryz.prog SS:=bO Xf (by have h:=g4;simp only [Bool.and_eq_true] at h;exact h.2.1)
theorem Xg:aW Tryz.prog (aJ aK Ug):=ay Xf c203
theorem Z0:Row.C Tryz.prog SV:=bO Xg (by have h:=g4;simp only [Bool.and_eq_true] at h;exact h.2.2.1)
theorem Xh:aW Tryz.prog (aJ aK Uh):=ay Xg Z0
theorem Z4:Row.C Tryz.prog SX:=bO Xh (by have h:=g4;simp only [Bool.and_eq_true] at h;exact h.2.2.2.1)
theorem Xi:aW Tryz.prog (aJ aK Ui):=ay Xh Z4
theorem c213:Row.C Tryz.prog SY:=bO Xi (by have h:=g4;simp only [Bool.and_eq_true] at h;exact h.2.2.2.2.1)
theorem Xj:aW Tryz.prog (aJ aK Uj):=ay Xi c213
theorem c218:Row.C Tryz.prog S9:=bO Xj (by have h:=g4;simp only [Bool.and_eq_true] at h;exact h.2.2.2.2.2.1)
theorem Xk:aW Tryz.prog (aJ aK Uk):=ay Xj c218
theorem Z5:Row.C Tryz.prog Ta:=bO Xk (by have h:=g4;simp only [Bool.and_eq_true] at h;exact h.2.2.2.2.2.2.1)
theorem Xl:aW Tryz.prog (aJ aK Ul):=ay Xk Z5
theorem c222:Row.C Tryz.prog Tc:=bO Xl (by have h:=g4;simp only [Bool.and_eq_true] at h;exact h.2.2.2.2.2.2.2.1)
theorem Xm:aW Tryz.prog (aJ aK Um):=ay Xl c222
theorem c226:Row.C Tryz.prog Td:=bO Xm (by have h:=g4;simp only [Bool.and_eq_true] at h;exact h.2.2.2.2.2.2.2.2.1)
theorem Xn:aW Tryz.prog (aJ aK Un):=ay Xm c226
theorem c228:Row.C Tryz.prog Te:=bO Xn (by have h:=g4;simp only [Bool.and_eq_true] at h;exact h.2.2.2.2.2.2.2.2.2.1)
theorem Xo:aW Tryz.prog (aJ aK Uo):=ay Xn c228
theorem c236:Row.C Tryz.prog Tf:=bO Xo (by have h:=g5;simp only [Bool.and_eq_true] at h;exact h.1)
theorem Xp:aW Tryz.prog (aJ aK Uq):=ay Xo c236
theorem Z6:Row.C Tryz.prog Tg:=bO Xp (by have h:=g5;simp only [Bool.and_eq_true] at h;exact h.2.1)
theorem Xq:aW Tryz.prog (aJ aK Ur):=ay Xp Z6
theorem Z7:Row.C Tryz.prog Ti:=bO Xq (by have h:=g5;simp only [Bool.and_eq_true] at h;exact h.2.2.1)
theorem Xr:aW Tryz.prog (aJ aK Us):=ay Xq Z7
theorem Z8:Row.C Tryz.prog Tj:=bO Xr (by have h:=g6;simp only [Bool.and_eq_true] at h;exact h.1)
theorem Xt:aW Tryz.prog (aJ aK Ut):=ay Xr Z8
theorem Z9:Row.C Tryz.prog Tk:=bO Xt (by have h:=g6;simp only [Bool.and_eq_true] at h;exact h.2.1)
theorem Xu:aW Tryz.prog (aJ aK Uu):=ay Xt Z9
theorem aac:Row.C Tryz.prog Tm:=bO Xu (by have h:=g7;simp only [Bool.and_eq_true] at h;exact h.1)
theorem Xv:aW Tryz.prog (aJ aK Uv):=ay Xu aac
theorem aad:Row.C Tryz.prog Tn:=bO Xv (by have h:=g7;simp only [Bool.and_eq_true] at h;exact h.2.1)
theorem Xw:aW Tryz.prog (aJ aK Uw):=ay Xv aad
theorem aae:Row.C Tryz.prog Tp:=bO Xw (by have h:=g7;simp only [Bool.and_eq_true] at h;exact h.2.2.1)
theorem Xx:aW Tryz.prog (aJ aK Ux):=ay Xw aae
theorem aaf:Row.C Tryz.prog Tq:=bO Xx (by have h:=g8;simp only [Bool.and_eq_true] at h;exact h.1)
theorem Xy:aW Tryz.prog (aJ aK Uy):=ay Xx aaf
theorem aag:Row.C Tryz.prog Tt:=bO Xy (by have h:=g8;simp only [Bool.and_eq_true] at h;exact h.2.1)
theorem Xz:aW Tryz.prog (aJ aK Uz):=ay Xy aag
theorem aah:Row.C Tryz.prog Tv:=bO Xz (by have h:=g8;simp only [Bool.and_eq_true] at h;exact h.2.2.1)
theorem XA:aW Tryz.prog (aJ aK UA):=ay Xz aah
theorem aai:Row.C Tryz.prog Tw:=bO XA (by have h:=g9;simp only [Bool.and_eq_true] at h;exact h.1)
theorem XB:aW Tryz.prog (aJ aK UC):=ay XA aai
theorem aaj:Row.C Tryz.prog Tx:=bO XB (by have h:=g10;simp only [Bool.and_eq_true] at h;exact h.1)
theorem XC:aW Tryz.prog (aJ aK UD):=ay XB aaj
theorem aak:Row.C Tryz.prog Tz:=bO XC (by have h:=g10;simp only [Bool.and_eq_true] at h;exact h.2.1)
theorem XD:aW Tryz.prog (aJ aK UE):=ay XC aak
theorem aal:Row.C Tryz.prog TA:=bO XD (by have h:=g10;simp only [Bool.and_eq_true] at h;exact h.2.2.1)
theorem XE:aW Tryz.prog (aJ aK UF):=ay XD aal
theorem aam:Row.C Tryz.prog TB:=bO XE (by have h:=g10;simp only [Bool.and_eq_true] at h;exact h.2.2.2.1)
theorem XF:aW Tryz.prog (aJ aK UG):=ay XE aam
theorem aan:Row.C Tryz.prog TD:=bO XF (by have h:=g10;simp only [Bool.and_eq_true] at h;exact h.2.2.2.2.1)
theorem XG:aW Tryz.prog (aJ aK UH):=ay XF aan
theorem aao:Row.C Tryz.prog TF:=bO XG (by have h:=g10;simp only [Bool.and_eq_true] at h;exact h.2.2.2.2.2.1)
theorem XH:aW Tryz.prog (aJ aK UJ):=ay XG aao
theorem aap:Row.C Tryz.prog TG:=bO XH (by have h:=g11;simp only [Bool.and_eq_true] at h;exact h.1)
theorem XI:aW Tryz.prog (aJ aK UK):=ay XH aap
theorem aaq:Row.C Tryz.prog TH:=bO XI (by have h:=g11;simp only [Bool.and_eq_true] at h;exact h.2.1)
theorem XJ:aW Tryz.prog (aJ aK UL):=ay XI aaq
theorem aar:Row.C Tryz.prog TI:=bO XJ (by have h:=g11;simp only [Bool.and_eq_true] at h;exact h.2.2.1)
theorem XK:aW Tryz.prog (aJ aK UM):=ay XJ aar
theorem aas:Row.C Tryz.prog TJ:=bO XK (by have h:=g12;simp only [Bool.and_eq_true] at h;exact h.1)
theorem XL:aW Tryz.prog (aJ aK UN):=ay XK aas
theorem aat:Row.C Tryz.prog TK:=bO XL (by have h:=g13;simp only [Bool.and_eq_true] at h;exact h.1)
theorem XM:aW Tryz.prog (aJ aK UO):=ay XL aat
theorem aau:Row.C Tryz.prog TL:=bO XM (by have h:=g13;simp only [Bool.and_eq_true] at h;exact h.2.1)
theorem XO:aW Tryz.prog (aJ aK UQ):=ay XM aau
theorem aav:Row.C Tryz.prog TM:=bO XO (by have h:=g13;simp only [Bool.and_eq_true] at h;exact h.2.2.1)
theorem XP:aW Tryz.prog (aJ aK UR):=ay XO aav
theorem aaw:Row.C Tryz.prog TN:=bO XP (by have h:=g13;simp only [Bool.and_eq_true] at h;exact h.2.2.2.1)
theorem XQ:aW Tryz.prog (aJ aK UU):=ay XP aaw
theorem aax:Row.C Tryz.prog TP:=bO XQ (by have h:=g14;simp only [Bool.and_eq_true] at h;exact h.1)
theorem XR:aW Tryz.prog (aJ aK UW):=ay XQ aax
theorem aay:Row.C Tryz.prog TQ:=bO XR (by have h:=g15;simp only [Bool.and_eq_true] at h;exact h.1)
theorem XT:aW Tryz.prog (aJ aK UY):=ay XR aay
theorem aaz:Row.C Tryz.prog TR:=bO XT (by have h:=g16;simp only [Bool.and_eq_true] at h;exact h.1)
theorem XU:aW Tryz.prog (aJ aK UZ):=ay XT aaz
theorem aaA:Row.C Tryz.prog TS:=bO XU (by have h:=g16;simp only [Bool.and_eq_true] at h;exact h.2.1)
theorem XV:aW Tryz.prog (aJ aK U0):=ay XU aaA
theorem aaB:Row.C Tryz.prog TT:=bO XV (by have h:=g17;simp only [Bool.and_eq_true] at h;exact h.1)
theorem XW:aW Tryz.prog (aJ aK U1):=ay XV aaB
theorem aaC:Row.C Tryz.prog TU:=bO XW (by have h:=g17;simp only [Bool.and_eq_true] at h;exact h.2.1)
theorem XY:aW Tryz.prog (aJ aK U2):=ay XW aaC
theorem aaD:Row.C Tryz.prog TV:=bO XY (by have h:=g17;simp only [Bool.and_eq_true] at h;exact h.2.2.1)
theorem XZ:aW Tryz.prog (aJ aK U3):=ay XY aaD
theorem aaE:Row.C Tryz.prog TW:=bO XZ (by have h:=g17;simp only [Bool.and_eq_true] at h;exact h.2.2.2.1)
theorem aaF:aW Tryz.prog (aJ aK WY):=ay XZ aaE
theorem aaG:Row.C Tryz.prog WX:=bO aaF (by have h:=g17;simp only [Bool.and_eq_true] at h;exact h.2.2.2.2.1)
theorem U4:bU Tryz.prog 6 (e0 (some (.bool true,[]))):=by
 refine V4 fun y c hg hc=>?_;simp only [Option.some.injEq,Prod.mk.injEq] at hg;obtain ⟨rfl,rfl⟩:=hg;exact aaG
end Go.Proofs.YtjoefbioobdinaaGreatDoor
