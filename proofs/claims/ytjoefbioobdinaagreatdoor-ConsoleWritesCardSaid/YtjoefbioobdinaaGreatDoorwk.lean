/-
  Whether two acts are one, on both sides; console.word of any kind; console.line; great.
-/
import Derived.Test.YtjoefbioobdinaaGreatDoorwj
namespace Go.Proofs.YtjoefbioobdinaaGreatDoor
open Go.RowKit Am
open Go.ay hiding cut intOf take split
set_option maxRecDepth 100000
set_option linter.unusedVariables false
set_option linter.unusedSimpArgs false
noncomputable abbrev smC:Code:=dY Tryz.f28
noncomputable abbrev E5:Code:=dY Tryz.f27
noncomputable abbrev LnC:Code:=dY Tryz.f11
noncomputable abbrev grC:Code:=dY Tryz.f10
def mX:DV→List Bool
 | .aC 1 ks _=>ks.map IC
 | _=>[]
def gQ:DV→Bool
 | .aC 1 ks _=>ks.all jI&&decide (ks.length≤1000000)
 | .aC 0 [] true=>true
 | _=>false
def VT:DV→Option (DV×List Bool):=fun d=>some (.str (jf (mX d)),[gQ d])
noncomputable def QX:List (Nat×kK):=[(49,e1 VT),(26,e1 VT)]
abbrev bR (kd nd n a x:Int) (tx:W) (kp:DV):DV:=.agg [.int .i64 kd,.int .i64 nd,.int .i64 n,.int .i64 a,.int .u8 x,.str tx,kp]
def IG:DV→DV→Bool
 | .agg [.int .i64 kd,.int .i64 nd,.int .i64 n,.int .i64 a,.int .u8 x,.str tx,kp],.agg [.int .i64 lg,.int .i64 lQ,.int .i64 n2,.int .i64 a2,.int .u8 x2,.str mW,kU]=>
   kd==lg&&(nd==lQ&&(n==n2&&(a==a2&&(x==x2&&(tx==mW&&jf (mX kp)==jf (mX kU))))))
 | _,_=>false
def Gu:DV→DV
 | .agg [.int .i64 _,.int .i64 _,.int .i64 _,.int .i64 _,.int .u8 _,.str _,kp]=>kp
 | _=>.aG
def isA:DV→Bool
 | .agg [.int .i64 _,.int .i64 _,.int .i64 _,.int .i64 _,.int .u8 _,.str _,_]=>true
 | _=>false
def ZW:DV→DV→Option (DV×List Bool):=fun x y=>some (.bool (IG x y),[isA x,isA y,gQ (Gu x),gQ (Gu y)])
def Gv:DV→Option (RV×List Bool)
 | .int .i64 k=>some (.bn [.d (.str (JB k)),.d (Dl k.toNat)],[])
 | _=>none
noncomputable def tl1:List (Nat×kK):=[(16,Ay Gv),(48,e1 Xc),(49,e1 VT)]
def wN (fs:DV) (len:Int) (i:Int) (s:W) (ac:List RV):jN:={ n:=84,m:=0,regs:=T.mk [(1,.ptr 200 0),(3,.d (.str s)),(13,.d fs),(14,.d (.int .i64 len)),(15,.d (.int .i64 i))],objs:=T.mk [(200,.box aT ac)] }
theorem II {f:Nat} (h1:∀(l:List Bool) (fl:Bool),l.length≤1000000→Go.Am.C Tryz.prog f [.d (.aC 1 (l.map DV.bool) fl)] [] (fun r o=>r = .d (.str (jf l))∧o=[])) (h0:Go.Am.C Tryz.prog f [.d (.aC 0 [] true)] [] (fun r o=>r = .d (.str (jf []))∧o=[])):cK Tryz.prog f (e1 VT):=by
 refine yx fun x y c hg hc=>?_;unfold VT at hg;simp only [Option.some.injEq,Prod.mk.injEq] at hg;obtain ⟨rfl,rfl⟩:=hg;have h:=hc (gQ x) (by simp);unfold gQ at h;split at h
 ·rename_i ks fl;rw [Bool.and_eq_true] at h;have h3:=h1 (ks.map IC) fl (by rw [List.length_map];exact of_decide_eq_true h.2);rw [MP h.1] at h3;exact h3
 ·exact h0
 ·cases h
theorem SQ:eD Tryz.prog QX:=.cons (II Xe QW) (.cons (II Xd QV) .nil)
theorem nN {d:DV} (h:isA d=true):∃kd nd n a x tx kp,d=bR kd nd n a x tx kp:=by
 unfold isA at h;split at h
 ·exact ⟨_,_,_,_,_,_,_,rfl⟩
 ·cases h
set_option maxHeartbeats 400000 in
theorem ZX (kd nd n a x lg lQ n2 a2 x2:Int) (tx mW:W) (kp kU:DV) (h1:gQ kp=true) (h2:gQ kU=true):Go.Am.C Tryz.prog 28 [.d (bR kd nd n a x tx kp),.d (bR lg lQ n2 a2 x2 mW kU)] [] (fun r o=>r = .d (.bool (IG (bR kd nd n a x tx kp) (bR lg lQ n2 a2 x2 mW kU)))∧o=[]):=by
 have ok:=aJ SQ;refine aH (fn:=Tryz.f28) (body:=smC) true (by kernel_rfl) (by kernel_rfl) (by kernel_rfl) ?_;have hb:IG (bR kd nd n a x tx kp) (bR lg lQ n2 a2 x2 mW kU)=(kd==lg&&(nd==lQ&&(n==n2&&(a==a2&&(x==x2&&(tx==mW&&jf (mX kp)==jf (mX kU))))))):=rfl;cases f0:(kd==lg) with
 | false=>
   have hq:IG (bR kd nd n a x tx kp) (bR lg lQ n2 a2 x2 mW kU)=false:=by rw [hb,f0];rfl
   exact WK.fin ok 1000 0 [(9,aj false)] [] [(aj (kd==lg),aj false)] rfl (by kernel_rfl:au (bG QX) true _ 1000 0 _ _ (bV 54 [.d (bR kd nd n a x tx kp),.d (bR lg lQ n2 a2 x2 mW kU)] [])=some (aj false,[],_,_)) trivial ⟨(by first | exact ah rfl | exact ah f0 | exact ah f1 | exact ah f2 | exact ah f3 | exact ah f4 | exact ah f5 | exact ah f6),trivial⟩ ⟨by rw [hq],rfl⟩
 | true=>
   cases f1:(nd==lQ) with
   | false=>
     have hq:IG (bR kd nd n a x tx kp) (bR lg lQ n2 a2 x2 mW kU)=false:=by rw [hb,f0,f1];rfl
     exact WK.fin ok 1000 0 [(9,aj true),(15,aj false)] [] [(aj (kd==lg),aj true),(aj (nd==lQ),aj false)] rfl (by kernel_rfl:au (bG QX) true _ 1000 0 _ _ (bV 54 [.d (bR kd nd n a x tx kp),.d (bR lg lQ n2 a2 x2 mW kU)] [])=some (aj false,[],_,_)) trivial (by refine ⟨?_,?_,trivial⟩<;>(first | exact ah rfl | exact ah f0 | exact ah f1 | exact ah f2 | exact ah f3 | exact ah f4 | exact ah f5 | exact ah f6)) ⟨by rw [hq],rfl⟩
   | true=>
     cases f2:(n==n2) with
     | false=>
       have hq:IG (bR kd nd n a x tx kp) (bR lg lQ n2 a2 x2 mW kU)=false:=by rw [hb,f0,f1,f2];rfl
       exact WK.fin ok 1000 0 [(9,aj true),(15,aj true),(22,aj false)] [] [(aj (kd==lg),aj true),(aj (nd==lQ),aj true),(aj (n==n2),aj false)] rfl (by kernel_rfl:au (bG QX) true _ 1000 0 _ _ (bV 54 [.d (bR kd nd n a x tx kp),.d (bR lg lQ n2 a2 x2 mW kU)] [])=some (aj false,[],_,_)) trivial (by refine ⟨?_,?_,?_,trivial⟩<;>(first | exact ah rfl | exact ah f0 | exact ah f1 | exact ah f2 | exact ah f3 | exact ah f4 | exact ah f5 | exact ah f6)) ⟨by rw [hq],rfl⟩
     | true=>
       cases f3:(a==a2) with
       | false=>
         have hq:IG (bR kd nd n a x tx kp) (bR lg lQ n2 a2 x2 mW kU)=false:=by rw [hb,f0,f1,f2,f3];rfl
         exact WK.fin ok 1000 0 [(9,aj true),(15,aj true),(22,aj true),(29,aj false)] [] [(aj (kd==lg),aj true),(aj (nd==lQ),aj true),(aj (n==n2),aj true),(aj (a==a2),aj false)] rfl (by kernel_rfl:au (bG QX) true _ 1000 0 _ _ (bV 54 [.d (bR kd nd n a x tx kp),.d (bR lg lQ n2 a2 x2 mW kU)] [])=some (aj false,[],_,_)) trivial (by refine ⟨?_,?_,?_,?_,trivial⟩<;>(first | exact ah rfl | exact ah f0 | exact ah f1 | exact ah f2 | exact ah f3 | exact ah f4 | exact ah f5 | exact ah f6)) ⟨by rw [hq],rfl⟩
       | true=>
         cases f4:(x==x2) with
         | false=>
           have hq:IG (bR kd nd n a x tx kp) (bR lg lQ n2 a2 x2 mW kU)=false:=by rw [hb,f0,f1,f2,f3,f4];rfl
           exact WK.fin ok 1000 0 [(9,aj true),(15,aj true),(22,aj true),(29,aj true),(36,aj false)] [] [(aj (kd==lg),aj true),(aj (nd==lQ),aj true),(aj (n==n2),aj true),(aj (a==a2),aj true),(aj (x==x2),aj false)] rfl (by kernel_rfl:au (bG QX) true _ 1000 0 _ _ (bV 54 [.d (bR kd nd n a x tx kp),.d (bR lg lQ n2 a2 x2 mW kU)] [])=some (aj false,[],_,_)) trivial (by refine ⟨?_,?_,?_,?_,?_,trivial⟩<;>(first | exact ah rfl | exact ah f0 | exact ah f1 | exact ah f2 | exact ah f3 | exact ah f4 | exact ah f5 | exact ah f6)) ⟨by rw [hq],rfl⟩
         | true=>
           cases f5:(tx==mW) with
           | false=>
             have hq:IG (bR kd nd n a x tx kp) (bR lg lQ n2 a2 x2 mW kU)=false:=by rw [hb,f0,f1,f2,f3,f4,f5];rfl
             exact WK.fin ok 1000 0 [(9,aj true),(15,aj true),(22,aj true),(29,aj true),(36,aj true),(43,aj false)] [] [(aj (kd==lg),aj true),(aj (nd==lQ),aj true),(aj (n==n2),aj true),(aj (a==a2),aj true),(aj (x==x2),aj true),(aj (tx==mW),aj false)] rfl (by kernel_rfl:au (bG QX) true _ 1000 0 _ _ (bV 54 [.d (bR kd nd n a x tx kp),.d (bR lg lQ n2 a2 x2 mW kU)] [])=some (aj false,[],_,_)) trivial (by refine ⟨?_,?_,?_,?_,?_,?_,trivial⟩<;>(first | exact ah rfl | exact ah f0 | exact ah f1 | exact ah f2 | exact ah f3 | exact ah f4 | exact ah f5 | exact ah f6)) ⟨by rw [hq],rfl⟩
           | true=>
             obtain ⟨b,f6⟩:∃b,(jf (mX kp)==jf (mX kU))=b:=⟨_,rfl⟩;have hq:IG (bR kd nd n a x tx kp) (bR lg lQ n2 a2 x2 mW kU)=b:=by rw [hb,f0,f1,f2,f3,f4,f5,f6];rfl
             exact WK.fin ok 1000 0 [(9,aj true),(15,aj true),(22,aj true),(29,aj true),(36,aj true),(43,aj true),(52,aj b)] [Go.Proofs.YtjoefbioobdinaaGreatDoor.gQ kp,Go.Proofs.YtjoefbioobdinaaGreatDoor.gQ kU] [(aj (kd==lg),aj true),(aj (nd==lQ),aj true),(aj (n==n2),aj true),(aj (a==a2),aj true),(aj (x==x2),aj true),(aj (tx==mW),aj true),(aj (Go.Proofs.YtjoefbioobdinaaGreatDoor.jf (Go.Proofs.YtjoefbioobdinaaGreatDoor.mX kp)==Go.Proofs.YtjoefbioobdinaaGreatDoor.jf (Go.Proofs.YtjoefbioobdinaaGreatDoor.mX kU)),aj b)] rfl (by kernel_rfl:au (bG QX) true _ 1000 0 _ _ (bV 54 [.d (bR kd nd n a x tx kp),.d (bR lg lQ n2 a2 x2 mW kU)] [])=some (aj b,[],_,_)) (by refine ⟨?_,?_,trivial⟩<;>(first | rfl | exact h1 | exact h2)) (by refine ⟨?_,?_,?_,?_,?_,?_,?_,trivial⟩<;>(first | exact ah rfl | exact ah f0 | exact ah f1 | exact ah f2 | exact ah f3 | exact ah f4 | exact ah f5 | exact ah f6)) ⟨by rw [hq],rfl⟩
theorem SS:cK Tryz.prog 28 (e2 ZW):=by
 refine nK fun x x2 y c hg hc=>?_;unfold ZW at hg;simp only [Option.some.injEq,Prod.mk.injEq] at hg;obtain ⟨rfl,rfl⟩:=hg;obtain ⟨kd,nd,n,a,z,tx,kp,rfl⟩:=nN (hc (isA x) (by simp));obtain ⟨lg,lQ,n2,a2,z2,mW,kU,rfl⟩:=nN (hc (isA x2) (by simp));exact ZX _ _ _ _ _ _ _ _ _ _ _ _ _ _ (hc (gQ (Gu (bR kd nd n a z tx kp))) (by simp)) (hc (gQ (Gu (bR lg lQ n2 a2 z2 mW kU))) (by simp))
set_option maxHeartbeats 400000 in
theorem PX (q:Int) (h:¬(1≤q∧q≤14)):Go.Am.C Tryz.prog 16 [.d (.int .i64 q)] [] (fun r o=>r = .bn [.d (.str []),.d (.aC 0 [] true)]∧o=[]):=by
 have ok:=aJ (l:=[]) .nil;refine aH (fn:=Tryz.f16) (body:=Gn) true (by kernel_rfl) (by kernel_rfl) (by kernel_rfl) ?_;exact WK.fin ok 1000 0 [(6,aj false),(9,aj false),(12,aj false),(15,aj false),(18,aj false),(21,aj false),(24,aj false),(27,aj false),(30,aj false),(33,aj false),(36,aj false),(38,aj false),(41,aj false),(43,aj false)] [] [(aj (q==1),aj false),(aj (q==2),aj false),(aj (q==3),aj false),(aj (q==4),aj false),(aj (q==5),aj false),(aj (q==6),aj false),(aj (q==7),aj false),(aj (q==8),aj false),(aj (q==9),aj false),(aj (q==10),aj false),(aj (q==11),aj false),(aj (q==12),aj false),(aj (q==13),aj false),(aj (q==14),aj false)] rfl (by kernel_rfl:au (bG []) true _ 1000 0 _ _ (bV 45 [.d (.int .i64 q)] [])=some (RV.bn [aR [],RV.d (DV.aC 0 [] true)],[],_,_)) trivial (by refine ⟨?_,?_,?_,?_,?_,?_,?_,?_,?_,?_,?_,?_,?_,?_,trivial⟩<;>(exact ah (beq_false_of_ne (by omega)))) ⟨rfl,rfl⟩
theorem MU {k:Nat} (h:¬(1≤k∧k≤14)):kw k=[]∧ZI k=[]:=by
 match k,h with
 | 0,_=>exact ⟨rfl,rfl⟩
 | 1,h=>exact absurd (by omega) h
 | 2,h=>exact absurd (by omega) h
 | 3,h=>exact absurd (by omega) h
 | 4,h=>exact absurd (by omega) h
 | 5,h=>exact absurd (by omega) h
 | 6,h=>exact absurd (by omega) h
 | 7,h=>exact absurd (by omega) h
 | 8,h=>exact absurd (by omega) h
 | 9,h=>exact absurd (by omega) h
 | 10,h=>exact absurd (by omega) h
 | 11,h=>exact absurd (by omega) h
 | 12,h=>exact absurd (by omega) h
 | 13,h=>exact absurd (by omega) h
 | 14,h=>exact absurd (by omega) h
 | k+15,_=>exact ⟨rfl,rfl⟩
theorem MV:cK Tryz.prog 16 (Ay Gv):=by
 refine oo fun x y c hg hc=>?_;unfold Gv at hg;split at hg
 ·rename_i k;simp only [Option.some.injEq,Prod.mk.injEq] at hg;obtain ⟨rfl,rfl⟩:=hg;by_cases h:1≤k∧k≤14
  ·obtain ⟨n,rfl⟩:=Int.eq_ofNat_of_zero_le (show 0≤k by omega);exact Mk n (by omega)
  ·have h2:¬(1≤k.toNat∧k.toNat≤14):=by omega
   obtain ⟨e1,e2⟩:=MU h2;have e3:Dl k.toNat = .aC 0 [] true:=by unfold Dl;rw [e2];rfl
   have e4:JB k=[]:=e1;rw [e3,e4];exact PX k h
 ·cases hg
theorem jU:eD Tryz.prog tl1:=.cons MV (.cons (MR ZV) (.cons (II Xe QW) .nil))
abbrev MW (t:W):cu→Prop:=yG (Tryz.f27.results.toList) 0 (fun r o=>r = .d (.str t)∧o=[])
abbrev mE (u:W) (fs:List DV) (i:Nat) (s:W) (kd nd n a x:Int) (tx:W) (kp:DV):Prop:=WK Tryz.prog 0 (aF E5 0) (wN (.aC 1 fs false) (fs.length:Int) (i:Int) s (iw kd nd n a x tx (.d kp))).den (MW u)
theorem aP {n:Int} (h:gK n):(Lib.itoa n).length≤21:=by
 unfold Lib.itoa;split
 ·have:=Dc (u:=n.natAbs) (by omega);simp only [List.length_cons];omega
 ·have:=Dc (u:=n.toNat) (by omega);omega
set_option maxHeartbeats 400000 in
theorem qG (u:W) (fs:List DV) (i:Nat) (s:W) (kd nd n a x:Int) (tx:W) (kp:DV) (hi:i≤1000) (hf:fs[i]? = some (.int .i64 0)) (hsl:s.length≤3000000) (hv:gK nd) (nx:mE u fs (i+1) (s++32::Lib.itoa nd) kd nd n a x tx kp):mE u fs i s kd nd n a x tx kp:=by
 have ok:=aJ jU;have hl:=fB hf;have vf:=fA hf;have vs:=dn (i:=i) (by omega);have c1:decide ((0:Int)≤(Nat.cast (R:=Int) i)∧(Nat.cast (R:=Int) i) < (Nat.cast (R:=Int) fs.length))=true:=decide_eq_true (by omega);obtain ⟨q,hq⟩:∃q:Int,(fs.length:Int)=q:=⟨_,rfl⟩;have c2:decide (-9223372036854775808≤nd)=true:=decide_eq_true hv.1;have c3:decide (nd≤9223372036854775807)=true:=decide_eq_true hv.2;obtain ⟨d,hd⟩:∃d:W,Lib.itoa nd=d:=⟨_,rfl⟩;obtain ⟨t,ht⟩:∃t:W,s++([(32:UInt8)]++d)=t:=⟨_,rfl⟩;have ht2:s++32::Lib.itoa nd=t:=by rw [hd];exact ht
 have hdl:d.length≤1100000:=by rw [←hd];exact (by have:=aP hv;omega)
 have c4:decide ([(32:UInt8)].length+d.length≤2 ^ 62)=true:=decide_eq_true (by simp only [List.length_cons,List.length_nil];omega);have c5:decide (s.length+([(32:UInt8)]++d).length≤2 ^ 62)=true:=decide_eq_true (by simp only [List.length_append,List.length_cons,List.length_nil];omega);rw [mE,ht2,hq] at nx;rw [mE,hq];refine WK.eF ok 1000 0 [(16,aj true),(17,RV.bB (aI (0)) 0),(25,aR d),(27,aR t),(82,aK ((i+1:Nat):Int))] [] [1,3,13,14,15] [decide (0≤(i:Int)∧(i:Int) < (fs.length:Int)),decide (-9223372036854775808≤nd),decide (nd≤9223372036854775807),decide (([32]:List UInt8).length+List.length d≤2 ^ 62),decide (List.length s+(([32]:List UInt8)++d).length≤2 ^ 62)] [(aj (decide ((i:Int) < q)),aj true),(RV.bB (fs.getD (i:Int).toNat DV.aG) 0,RV.bB (aI (0)) 0),(aR (Go.Lib.itoa nd),aR d),(aR (s++([(32:UInt8)]++d)),aR t),(aK (IntKind.i64.wrap ((i:Int)+1)),aK ((i+1:Nat):Int))] rfl (by kernel_rfl:bq (bG tl1) 1000 0 _ _ _ _ (wN (.aC 1 fs false) q (i:Int) s (iw kd nd n a x tx (.d kp)))=some (aF E5 0,wN (.aC 1 fs false) q ((i+1:Nat):Int) t (iw kd nd n a x tx (.d kp)),_,_)) (by refine ⟨?_,?_,?_,?_,?_,trivial⟩<;>(first | rfl | exact c1 | exact c2 | exact c3 | exact c4 | exact c5)) (by refine ⟨?_,?_,?_,?_,?_,trivial⟩<;>(first | exact ah rfl | exact vf | exact vs | exact .of_eq (by rw [hd]) | exact .of_eq (by rw [hx,hd]) | exact .of_eq (by rw [ht]) | exact .of_eq (by rw [ht3]) | exact .of_eq (by rw [hx]) | exact ah (decide_eq_true (by omega)) | exact ah (decide_eq_false (by omega)))) ?_
 exact nx
set_option maxHeartbeats 400000 in
theorem oC (u:W) (fs:List DV) (i:Nat) (s:W) (kd nd n a x:Int) (tx:W) (kp:DV) (hi:i≤1000) (hf:fs[i]? = some (.int .i64 1)) (hsl:s.length≤3000000) (hv:gK n) (nx:mE u fs (i+1) (s++32::Lib.itoa n) kd nd n a x tx kp):mE u fs i s kd nd n a x tx kp:=by
 have ok:=aJ jU;have hl:=fB hf;have vf:=fA hf;have vs:=dn (i:=i) (by omega);have c1:decide ((0:Int)≤(Nat.cast (R:=Int) i)∧(Nat.cast (R:=Int) i) < (Nat.cast (R:=Int) fs.length))=true:=decide_eq_true (by omega);obtain ⟨q,hq⟩:∃q:Int,(fs.length:Int)=q:=⟨_,rfl⟩;have c2:decide (-9223372036854775808≤n)=true:=decide_eq_true hv.1;have c3:decide (n≤9223372036854775807)=true:=decide_eq_true hv.2;obtain ⟨d,hd⟩:∃d:W,Lib.itoa n=d:=⟨_,rfl⟩;obtain ⟨t,ht⟩:∃t:W,s++([(32:UInt8)]++d)=t:=⟨_,rfl⟩;have ht2:s++32::Lib.itoa n=t:=by rw [hd];exact ht
 have hdl:d.length≤1100000:=by rw [←hd];exact (by have:=aP hv;omega)
 have c4:decide ([(32:UInt8)].length+d.length≤2 ^ 62)=true:=decide_eq_true (by simp only [List.length_cons,List.length_nil];omega);have c5:decide (s.length+([(32:UInt8)]++d).length≤2 ^ 62)=true:=decide_eq_true (by simp only [List.length_append,List.length_cons,List.length_nil];omega);rw [mE,ht2,hq] at nx;rw [mE,hq];refine WK.eF ok 1000 0 [(16,aj true),(17,RV.bB (aI (1)) 0),(33,aR d),(35,aR t),(82,aK ((i+1:Nat):Int))] [] [1,3,13,14,15] [decide (0≤(i:Int)∧(i:Int) < (fs.length:Int)),decide (-9223372036854775808≤n),decide (n≤9223372036854775807),decide (([32]:List UInt8).length+List.length d≤2 ^ 62),decide (List.length s+(([32]:List UInt8)++d).length≤2 ^ 62)] [(aj (decide ((i:Int) < q)),aj true),(RV.bB (fs.getD (i:Int).toNat DV.aG) 0,RV.bB (aI (1)) 0),(aR (Go.Lib.itoa n),aR d),(aR (s++([(32:UInt8)]++d)),aR t),(aK (IntKind.i64.wrap ((i:Int)+1)),aK ((i+1:Nat):Int))] rfl (by kernel_rfl:bq (bG tl1) 1000 0 _ _ _ _ (wN (.aC 1 fs false) q (i:Int) s (iw kd nd n a x tx (.d kp)))=some (aF E5 0,wN (.aC 1 fs false) q ((i+1:Nat):Int) t (iw kd nd n a x tx (.d kp)),_,_)) (by refine ⟨?_,?_,?_,?_,?_,trivial⟩<;>(first | rfl | exact c1 | exact c2 | exact c3 | exact c4 | exact c5)) (by refine ⟨?_,?_,?_,?_,?_,trivial⟩<;>(first | exact ah rfl | exact vf | exact vs | exact .of_eq (by rw [hd]) | exact .of_eq (by rw [hx,hd]) | exact .of_eq (by rw [ht]) | exact .of_eq (by rw [ht3]) | exact .of_eq (by rw [hx]) | exact ah (decide_eq_true (by omega)) | exact ah (decide_eq_false (by omega)))) ?_
 exact nx
set_option maxHeartbeats 400000 in
theorem MX (u:W) (fs:List DV) (i:Nat) (s:W) (kd nd n a x:Int) (tx:W) (kp:DV) (hi:i≤1000) (hf:fs[i]? = some (.int .i64 2)) (hsl:s.length≤3000000) (hv:gK a) (nx:mE u fs (i+1) (s++32::Lib.itoa a) kd nd n a x tx kp):mE u fs i s kd nd n a x tx kp:=by
 have ok:=aJ jU;have hl:=fB hf;have vf:=fA hf;have vs:=dn (i:=i) (by omega);have c1:decide ((0:Int)≤(Nat.cast (R:=Int) i)∧(Nat.cast (R:=Int) i) < (Nat.cast (R:=Int) fs.length))=true:=decide_eq_true (by omega);obtain ⟨q,hq⟩:∃q:Int,(fs.length:Int)=q:=⟨_,rfl⟩;have c2:decide (-9223372036854775808≤a)=true:=decide_eq_true hv.1;have c3:decide (a≤9223372036854775807)=true:=decide_eq_true hv.2;obtain ⟨d,hd⟩:∃d:W,Lib.itoa a=d:=⟨_,rfl⟩;obtain ⟨t,ht⟩:∃t:W,s++([(32:UInt8)]++d)=t:=⟨_,rfl⟩;have ht2:s++32::Lib.itoa a=t:=by rw [hd];exact ht
 have hdl:d.length≤1100000:=by rw [←hd];exact (by have:=aP hv;omega)
 have c4:decide ([(32:UInt8)].length+d.length≤2 ^ 62)=true:=decide_eq_true (by simp only [List.length_cons,List.length_nil];omega);have c5:decide (s.length+([(32:UInt8)]++d).length≤2 ^ 62)=true:=decide_eq_true (by simp only [List.length_append,List.length_cons,List.length_nil];omega);rw [mE,ht2,hq] at nx;rw [mE,hq];refine WK.eF ok 1000 0 [(16,aj true),(17,RV.bB (aI (2)) 0),(41,aR d),(43,aR t),(82,aK ((i+1:Nat):Int))] [] [1,3,13,14,15] [decide (0≤(i:Int)∧(i:Int) < (fs.length:Int)),decide (-9223372036854775808≤a),decide (a≤9223372036854775807),decide (([32]:List UInt8).length+List.length d≤2 ^ 62),decide (List.length s+(([32]:List UInt8)++d).length≤2 ^ 62)] [(aj (decide ((i:Int) < q)),aj true),(RV.bB (fs.getD (i:Int).toNat DV.aG) 0,RV.bB (aI (2)) 0),(aR (Go.Lib.itoa a),aR d),(aR (s++([(32:UInt8)]++d)),aR t),(aK (IntKind.i64.wrap ((i:Int)+1)),aK ((i+1:Nat):Int))] rfl (by kernel_rfl:bq (bG tl1) 1000 0 _ _ _ _ (wN (.aC 1 fs false) q (i:Int) s (iw kd nd n a x tx (.d kp)))=some (aF E5 0,wN (.aC 1 fs false) q ((i+1:Nat):Int) t (iw kd nd n a x tx (.d kp)),_,_)) (by refine ⟨?_,?_,?_,?_,?_,trivial⟩<;>(first | rfl | exact c1 | exact c2 | exact c3 | exact c4 | exact c5)) (by refine ⟨?_,?_,?_,?_,?_,trivial⟩<;>(first | exact ah rfl | exact vf | exact vs | exact .of_eq (by rw [hd]) | exact .of_eq (by rw [hx,hd]) | exact .of_eq (by rw [ht]) | exact .of_eq (by rw [ht3]) | exact .of_eq (by rw [hx]) | exact ah (decide_eq_true (by omega)) | exact ah (decide_eq_false (by omega)))) ?_
 exact nx
set_option maxHeartbeats 400000 in
theorem PY (u:W) (fs:List DV) (i:Nat) (s:W) (kd nd n a x:Int) (tx:W) (kp:DV) (hi:i≤1000) (hf:fs[i]? = some (.int .i64 3)) (hsl:s.length≤3000000) (hx0:0≤x∧x≤255) (nx:mE u fs (i+1) (s++32::Lib.itoa x) kd nd n a x tx kp):mE u fs i s kd nd n a x tx kp:=by
 have ok:=aJ jU;have hl:=fB hf;have vf:=fA hf;have vs:=dn (i:=i) (by omega);have c1:decide ((0:Int)≤(Nat.cast (R:=Int) i)∧(Nat.cast (R:=Int) i) < (Nat.cast (R:=Int) fs.length))=true:=decide_eq_true (by omega);obtain ⟨q,hq⟩:∃q:Int,(fs.length:Int)=q:=⟨_,rfl⟩;have hx:IntKind.i64.wrap x=x:=fM x (by omega);have c2:decide (-9223372036854775808≤IntKind.i64.wrap x)=true:=by rw [hx];exact decide_eq_true (by omega)
 have c3:decide (IntKind.i64.wrap x≤9223372036854775807)=true:=by rw [hx];exact decide_eq_true (by omega)
 obtain ⟨d,hd⟩:∃d:W,Lib.itoa x=d:=⟨_,rfl⟩;obtain ⟨t,ht⟩:∃t:W,s++([(32:UInt8)]++d)=t:=⟨_,rfl⟩;have ht2:s++32::Lib.itoa x=t:=by rw [hd];exact ht
 have hdl:d.length≤1100000:=by rw [←hd];exact (by have:=aP (n:=x) ⟨by omega,by omega⟩;omega)
 have c4:decide ([(32:UInt8)].length+d.length≤2 ^ 62)=true:=decide_eq_true (by simp only [List.length_cons,List.length_nil];omega);have c5:decide (s.length+([(32:UInt8)]++d).length≤2 ^ 62)=true:=decide_eq_true (by simp only [List.length_append,List.length_cons,List.length_nil];omega);rw [mE,ht2,hq] at nx;rw [mE,hq];refine WK.eF ok 1000 0 [(16,aj true),(17,RV.bB (aI (3)) 0),(50,aR d),(52,aR t),(82,aK ((i+1:Nat):Int))] [] [1,3,13,14,15] [decide (0≤(i:Int)∧(i:Int) < (fs.length:Int)),decide (-9223372036854775808≤IntKind.i64.wrap x),decide (IntKind.i64.wrap x≤9223372036854775807),decide (([32]:List UInt8).length+List.length d≤2 ^ 62),decide (List.length s+(([32]:List UInt8)++d).length≤2 ^ 62)] [(aj (decide ((i:Int) < q)),aj true),(RV.bB (fs.getD (i:Int).toNat DV.aG) 0,RV.bB (aI (3)) 0),(aR (Go.Lib.itoa (IntKind.i64.wrap x)),aR d),(aR (s++([(32:UInt8)]++d)),aR t),(aK (IntKind.i64.wrap ((i:Int)+1)),aK ((i+1:Nat):Int))] rfl (by kernel_rfl:bq (bG tl1) 1000 0 _ _ _ _ (wN (.aC 1 fs false) q (i:Int) s (iw kd nd n a x tx (.d kp)))=some (aF E5 0,wN (.aC 1 fs false) q ((i+1:Nat):Int) t (iw kd nd n a x tx (.d kp)),_,_)) (by refine ⟨?_,?_,?_,?_,?_,trivial⟩<;>(first | rfl | exact c1 | exact c2 | exact c3 | exact c4 | exact c5)) (by refine ⟨?_,?_,?_,?_,?_,trivial⟩<;>(first | exact ah rfl | exact vf | exact vs | exact .of_eq (by rw [hd]) | exact .of_eq (by rw [hx,hd]) | exact .of_eq (by rw [ht]) | exact .of_eq (by rw [ht3]) | exact .of_eq (by rw [hx]) | exact ah (decide_eq_true (by omega)) | exact ah (decide_eq_false (by omega)))) ?_
 exact nx
set_option maxHeartbeats 400000 in
theorem PZ (u:W) (fs:List DV) (i:Nat) (s:W) (kd nd n a x:Int) (tx:W) (kp:DV) (hi:i≤1000) (hf:fs[i]? = some (.int .i64 6)) (hsl:s.length≤3000000) (hv:tx.length≤1000000) (nx:mE u fs (i+1) (s++32::tx) kd nd n a x tx kp):mE u fs i s kd nd n a x tx kp:=by
 have ok:=aJ jU;have hl:=fB hf;have vf:=fA hf;have vs:=dn (i:=i) (by omega);have c1:decide ((0:Int)≤(Nat.cast (R:=Int) i)∧(Nat.cast (R:=Int) i) < (Nat.cast (R:=Int) fs.length))=true:=decide_eq_true (by omega);obtain ⟨q,hq⟩:∃q:Int,(fs.length:Int)=q:=⟨_,rfl⟩;obtain ⟨t,ht⟩:∃t:W,s++([(32:UInt8)]++tx)=t:=⟨_,rfl⟩;have ht2:s++32::tx=t:=ht;have c4:decide ([(32:UInt8)].length+tx.length≤2 ^ 62)=true:=decide_eq_true (by simp only [List.length_cons,List.length_nil];omega);have c5:decide (s.length+([(32:UInt8)]++tx).length≤2 ^ 62)=true:=decide_eq_true (by simp only [List.length_append,List.length_cons,List.length_nil];omega);rw [mE,ht2,hq] at nx;rw [mE,hq];refine WK.eF ok 1000 0 [(16,aj true),(17,RV.bB (aI (6)) 0),(69,aR t),(82,aK ((i+1:Nat):Int))] [] [1,3,13,14,15] [decide (0≤(i:Int)∧(i:Int) < (fs.length:Int)),decide (([32]:List UInt8).length+List.length tx≤2 ^ 62),decide (List.length s+(([32]:List UInt8)++tx).length≤2 ^ 62)] [(aj (decide ((i:Int) < q)),aj true),(RV.bB (fs.getD (i:Int).toNat DV.aG) 0,RV.bB (aI (6)) 0),(aR (s++([(32:UInt8)]++tx)),aR t),(aK (IntKind.i64.wrap ((i:Int)+1)),aK ((i+1:Nat):Int))] rfl (by kernel_rfl:bq (bG tl1) 1000 0 _ _ _ _ (wN (.aC 1 fs false) q (i:Int) s (iw kd nd n a x tx (.d kp)))=some (aF E5 0,wN (.aC 1 fs false) q ((i+1:Nat):Int) t (iw kd nd n a x tx (.d kp)),_,_)) (by refine ⟨?_,?_,?_,trivial⟩<;>(first | rfl | exact c1 | exact c2 | exact c3 | exact c4 | exact c5)) (by refine ⟨?_,?_,?_,?_,trivial⟩<;>(first | exact ah rfl | exact vf | exact vs | exact .of_eq (by rw [hd]) | exact .of_eq (by rw [hx,hd]) | exact .of_eq (by rw [ht]) | exact .of_eq (by rw [ht3]) | exact .of_eq (by rw [hx]) | exact ah (decide_eq_true (by omega)) | exact ah (decide_eq_false (by omega)))) ?_
 exact nx
set_option maxHeartbeats 400000 in
theorem P5 (u:W) (fs:List DV) (i:Nat) (s:W) (kd nd n a x:Int) (tx:W) (kp:DV) (hi:i≤1000) (hf:fs[i]? = some (.int .i64 4)) (hsl:s.length≤3000000) (hx0:0≤x∧x≤255) (hx1:x % 2=0) (nx:mE u fs (i+1) (s++32::[(115:UInt8),(112:UInt8),(97:UInt8),(99:UInt8),(101:UInt8)]) kd nd n a x tx kp):mE u fs i s kd nd n a x tx kp:=by
 have ok:=aJ jU;have hl:=fB hf;have vf:=fA hf;have vs:=dn (i:=i) (by omega);have c1:decide ((0:Int)≤(Nat.cast (R:=Int) i)∧(Nat.cast (R:=Int) i) < (Nat.cast (R:=Int) fs.length))=true:=decide_eq_true (by omega);obtain ⟨q,hq⟩:∃q:Int,(fs.length:Int)=q:=⟨_,rfl⟩
 have hd:bits Go.BinOp.and .u8 x 1=0:=by
  obtain ⟨m,hm⟩:=Int.eq_ofNat_of_zero_le hx0.1
  have:∀m:Fin 256,bits Go.BinOp.and .u8 ((m.val:Nat):Int) 1=((m.val % 2:Nat):Int):=by decide +kernel
  have h:=this ⟨m,by omega⟩;rw [hm,h];simp only;omega
 obtain ⟨t,ht⟩:∃t:W,s++([(32:UInt8)]++[(115:UInt8),(112:UInt8),(97:UInt8),(99:UInt8),(101:UInt8)])=t:=⟨_,rfl⟩;have ht2:s++32::[(115:UInt8),(112:UInt8),(97:UInt8),(99:UInt8),(101:UInt8)]=t:=ht;have ht3:s++((32:UInt8)::[(115:UInt8),(112:UInt8),(97:UInt8),(99:UInt8),(101:UInt8)])=t:=ht;have c5:decide (s.length+([(32:UInt8)]++[(115:UInt8),(112:UInt8),(97:UInt8),(99:UInt8),(101:UInt8)]).length≤2 ^ 62)=true:=decide_eq_true (by simp only [List.length_append,List.length_cons,List.length_nil];omega);rw [mE,ht2,hq] at nx;rw [mE,hq];refine WK.eF ok 1000 0 [(16,aj true),(17,RV.bB (aI (4)) 0),(59,gB (0)),(62,aR t),(82,aK ((i+1:Nat):Int))] [] [1,3,13,14,15] [decide (0≤(i:Int)∧(i:Int) < (fs.length:Int)),true,true,decide (List.length s+(([32]:List UInt8)++([115,112,97,99,101]:List UInt8)).length≤2 ^ 62)] [(aj (decide ((i:Int) < q)),aj true),(RV.bB (fs.getD (i:Int).toNat DV.aG) 0,RV.bB (aI (4)) 0),(gB (bits Go.BinOp.and IntKind.u8 x (1)),gB (0)),(aR (s++[(32:UInt8),(115:UInt8),(112:UInt8),(97:UInt8),(99:UInt8),(101:UInt8)]),aR t),(aK (IntKind.i64.wrap ((i:Int)+1)),aK ((i+1:Nat):Int))] rfl (by kernel_rfl:bq (bG tl1) 1000 0 _ _ _ _ (wN (.aC 1 fs false) q (i:Int) s (iw kd nd n a x tx (.d kp)))=some (aF E5 0,wN (.aC 1 fs false) q ((i+1:Nat):Int) t (iw kd nd n a x tx (.d kp)),_,_)) (by refine ⟨?_,?_,?_,?_,trivial⟩<;>(first | rfl | exact c1 | exact c2 | exact c3 | exact c4 | exact c5)) (by refine ⟨?_,?_,?_,?_,?_,trivial⟩<;>(first | exact ah rfl | exact vf | exact vs | exact .of_eq (by rw [hd]) | exact .of_eq (by rw [hx,hd]) | exact .of_eq (by rw [ht]) | exact .of_eq (by rw [ht3]) | exact .of_eq (by rw [hx]) | exact ah (decide_eq_true (by omega)) | exact ah (decide_eq_false (by omega)))) ?_
 exact nx
set_option maxHeartbeats 400000 in
theorem P6 (u:W) (fs:List DV) (i:Nat) (s:W) (kd nd n a x:Int) (tx:W) (kp:DV) (hi:i≤1000) (hf:fs[i]? = some (.int .i64 4)) (hsl:s.length≤3000000) (hx0:0≤x∧x≤255) (hx1:x % 2=1) (nx:mE u fs (i+1) (s++32::[(105:UInt8),(111:UInt8)]) kd nd n a x tx kp):mE u fs i s kd nd n a x tx kp:=by
 have ok:=aJ jU;have hl:=fB hf;have vf:=fA hf;have vs:=dn (i:=i) (by omega);have c1:decide ((0:Int)≤(Nat.cast (R:=Int) i)∧(Nat.cast (R:=Int) i) < (Nat.cast (R:=Int) fs.length))=true:=decide_eq_true (by omega);obtain ⟨q,hq⟩:∃q:Int,(fs.length:Int)=q:=⟨_,rfl⟩
 have hd:bits Go.BinOp.and .u8 x 1=1:=by
  obtain ⟨m,hm⟩:=Int.eq_ofNat_of_zero_le hx0.1
  have:∀m:Fin 256,bits Go.BinOp.and .u8 ((m.val:Nat):Int) 1=((m.val % 2:Nat):Int):=by decide +kernel
  have h:=this ⟨m,by omega⟩;rw [hm,h];simp only;omega
 obtain ⟨t,ht⟩:∃t:W,s++([(32:UInt8)]++[(105:UInt8),(111:UInt8)])=t:=⟨_,rfl⟩;have ht2:s++32::[(105:UInt8),(111:UInt8)]=t:=ht;have ht3:s++((32:UInt8)::[(105:UInt8),(111:UInt8)])=t:=ht;have c5:decide (s.length+([(32:UInt8)]++[(105:UInt8),(111:UInt8)]).length≤2 ^ 62)=true:=decide_eq_true (by simp only [List.length_append,List.length_cons,List.length_nil];omega);rw [mE,ht2,hq] at nx;rw [mE,hq];refine WK.eF ok 1000 0 [(16,aj true),(17,RV.bB (aI (4)) 0),(59,gB (1)),(62,aR t),(82,aK ((i+1:Nat):Int))] [] [1,3,13,14,15] [decide (0≤(i:Int)∧(i:Int) < (fs.length:Int)),true,true,decide (List.length s+(([32]:List UInt8)++([105,111]:List UInt8)).length≤2 ^ 62)] [(aj (decide ((i:Int) < q)),aj true),(RV.bB (fs.getD (i:Int).toNat DV.aG) 0,RV.bB (aI (4)) 0),(gB (bits Go.BinOp.and IntKind.u8 x (1)),gB (1)),(aR (s++[(32:UInt8),(105:UInt8),(111:UInt8)]),aR t),(aK (IntKind.i64.wrap ((i:Int)+1)),aK ((i+1:Nat):Int))] rfl (by kernel_rfl:bq (bG tl1) 1000 0 _ _ _ _ (wN (.aC 1 fs false) q (i:Int) s (iw kd nd n a x tx (.d kp)))=some (aF E5 0,wN (.aC 1 fs false) q ((i+1:Nat):Int) t (iw kd nd n a x tx (.d kp)),_,_)) (by refine ⟨?_,?_,?_,?_,trivial⟩<;>(first | rfl | exact c1 | exact c2 | exact c3 | exact c4 | exact c5)) (by refine ⟨?_,?_,?_,?_,?_,trivial⟩<;>(first | exact ah rfl | exact vf | exact vs | exact .of_eq (by rw [hd]) | exact .of_eq (by rw [hx,hd]) | exact .of_eq (by rw [ht]) | exact .of_eq (by rw [ht3]) | exact .of_eq (by rw [hx]) | exact ah (decide_eq_true (by omega)) | exact ah (decide_eq_false (by omega)))) ?_
 exact nx
set_option maxHeartbeats 400000 in
theorem P7 (u:W) (fs:List DV) (i:Nat) (s:W) (kd nd n a x:Int) (tx:W) (ks:List DV) (fl:Bool) (hi:i≤1000) (hf:fs[i]? = some (.int .i64 5)) (hsl:s.length≤3000000) (hk:gQ (.aC 1 ks fl)=true) (h0:0 < ks.length) (nx:mE u fs (i+1) (s++32::jf (mX (.aC 1 ks fl))) kd nd n a x tx (.aC 1 ks fl)):mE u fs i s kd nd n a x tx (.aC 1 ks fl):=by
 have ok:=aJ jU;have hl:=fB hf;have vf:=fA hf;have vs:=dn (i:=i) (by omega);have c1:decide ((0:Int)≤(Nat.cast (R:=Int) i)∧(Nat.cast (R:=Int) i) < (Nat.cast (R:=Int) fs.length))=true:=decide_eq_true (by omega);obtain ⟨q,hq⟩:∃q:Int,(fs.length:Int)=q:=⟨_,rfl⟩;obtain ⟨d,hd⟩:∃d:W,jf (mX (.aC 1 ks fl))=d:=⟨_,rfl⟩;obtain ⟨t,ht⟩:∃t:W,s++([(32:UInt8)]++d)=t:=⟨_,rfl⟩;have ht2:s++32::jf (mX (.aC 1 ks fl))=t:=by rw [hd];exact ht
 have hkl:ks.length≤1000000:=by
  have hk2:(ks.all jI&&decide (ks.length≤1000000))=true:=hk;rw [Bool.and_eq_true] at hk2;exact of_decide_eq_true hk2.2
 have hdl:d.length≤1100000:=by rw [←hd];show ((ks.map IC).map _).length≤1100000;rw [List.length_map,List.length_map];omega
 have c2:=hk;have c4:decide ([(32:UInt8)].length+d.length≤2 ^ 62)=true:=decide_eq_true (by simp only [List.length_cons,List.length_nil];omega);have c5:decide (s.length+([(32:UInt8)]++d).length≤2 ^ 62)=true:=decide_eq_true (by simp only [List.length_append,List.length_cons,List.length_nil];omega);rw [mE,ht2,hq] at nx;rw [mE,hq];refine WK.eF ok 1000 0 [(16,aj true),(17,RV.bB (aI (5)) 0),(75,aj true),(79,aR d),(81,aR t),(82,aK ((i+1:Nat):Int))] [] [1,3,13,14,15] [decide (0≤(i:Int)∧(i:Int) < (fs.length:Int)),Go.Proofs.YtjoefbioobdinaaGreatDoor.gQ (DV.aC 1 ks fl),decide (([32]:List UInt8).length+List.length d≤2 ^ 62),decide (List.length s+(([32]:List UInt8)++d).length≤2 ^ 62)] [(aj (decide ((i:Int) < q)),aj true),(RV.bB (fs.getD (i:Int).toNat DV.aG) 0,RV.bB (aI (5)) 0),(aj (decide (0 < (ks.length:Int))),aj true),(aR (Go.Proofs.YtjoefbioobdinaaGreatDoor.jf (Go.Proofs.YtjoefbioobdinaaGreatDoor.mX (DV.aC (1) ks fl))),aR d),(aR (s++([(32:UInt8)]++d)),aR t),(aK (IntKind.i64.wrap ((i:Int)+1)),aK ((i+1:Nat):Int))] rfl (by kernel_rfl:bq (bG tl1) 1000 0 _ _ _ _ (wN (.aC 1 fs false) q (i:Int) s (iw kd nd n a x tx (.d (.aC 1 ks fl))))=some (aF E5 0,wN (.aC 1 fs false) q ((i+1:Nat):Int) t (iw kd nd n a x tx (.d (.aC 1 ks fl))),_,_)) (by refine ⟨?_,?_,?_,?_,trivial⟩<;>(first | rfl | exact c1 | exact c2 | exact c3 | exact c4 | exact c5)) (by refine ⟨?_,?_,?_,?_,?_,?_,trivial⟩<;>(first | exact ah rfl | exact vf | exact vs | exact .of_eq (by rw [hd]) | exact .of_eq (by rw [hx,hd]) | exact .of_eq (by rw [ht]) | exact .of_eq (by rw [ht3]) | exact .of_eq (by rw [hx]) | exact ah (decide_eq_true (by omega)) | exact ah (decide_eq_false (by omega)))) ?_
 exact nx
set_option maxHeartbeats 400000 in
theorem MZ (u:W) (fs:List DV) (i:Nat) (s:W) (kd nd n a x:Int) (tx:W) (ks:List DV) (fl:Bool) (hi:i≤1000) (hf:fs[i]? = some (.int .i64 5)) (h0:ks.length=0) (nx:mE u fs (i+1) s kd nd n a x tx (.aC 1 ks fl)):mE u fs i s kd nd n a x tx (.aC 1 ks fl):=by
 have ok:=aJ jU;have hl:=fB hf;have vf:=fA hf;have vs:=dn (i:=i) (by omega);have c1:decide ((0:Int)≤(Nat.cast (R:=Int) i)∧(Nat.cast (R:=Int) i) < (Nat.cast (R:=Int) fs.length))=true:=decide_eq_true (by omega);obtain ⟨q,hq⟩:∃q:Int,(fs.length:Int)=q:=⟨_,rfl⟩;rw [mE,hq] at nx;rw [mE,hq];refine WK.eF ok 1000 0 [(16,aj true),(17,RV.bB (aI (5)) 0),(75,aj false),(82,aK ((i+1:Nat):Int))] [] [1,3,13,14,15] [decide (0≤(i:Int)∧(i:Int) < (fs.length:Int))] [(aj (decide ((i:Int) < q)),aj true),(RV.bB (fs.getD (i:Int).toNat DV.aG) 0,RV.bB (aI (5)) 0),(aj (decide (0 < (ks.length:Int))),aj false),(aK (IntKind.i64.wrap ((i:Int)+1)),aK ((i+1:Nat):Int))] rfl (by kernel_rfl:bq (bG tl1) 1000 0 _ _ _ _ (wN (.aC 1 fs false) q (i:Int) s (iw kd nd n a x tx (.d (.aC 1 ks fl))))=some (aF E5 0,wN (.aC 1 fs false) q ((i+1:Nat):Int) s (iw kd nd n a x tx (.d (.aC 1 ks fl))),_,_)) ⟨(by first | rfl | exact c1 | exact c2 | exact c3 | exact c4 | exact c5),trivial⟩ (by refine ⟨?_,?_,?_,?_,trivial⟩<;>(first | exact ah rfl | exact vf | exact vs | exact .of_eq (by rw [hd]) | exact .of_eq (by rw [hx,hd]) | exact .of_eq (by rw [ht]) | exact .of_eq (by rw [ht3]) | exact .of_eq (by rw [hx]) | exact ah (decide_eq_true (by omega)) | exact ah (decide_eq_false (by omega)))) ?_
 exact nx
set_option maxHeartbeats 400000 in
theorem M0 (u:W) (fs:List DV) (i:Nat) (s:W) (kd nd n a x:Int) (tx:W) (hi:i≤1000) (hf:fs[i]? = some (.int .i64 5)) (nx:mE u fs (i+1) s kd nd n a x tx (.aC 0 [] true)):mE u fs i s kd nd n a x tx (.aC 0 [] true):=by
 have ok:=aJ jU;have hl:=fB hf;have vf:=fA hf;have vs:=dn (i:=i) (by omega);have c1:decide ((0:Int)≤(Nat.cast (R:=Int) i)∧(Nat.cast (R:=Int) i) < (Nat.cast (R:=Int) fs.length))=true:=decide_eq_true (by omega);obtain ⟨q,hq⟩:∃q:Int,(fs.length:Int)=q:=⟨_,rfl⟩;rw [mE,hq] at nx;rw [mE,hq];refine WK.eF ok 1000 0 [(16,aj true),(17,RV.bB (aI (5)) 0),(75,aj false),(82,aK ((i+1:Nat):Int))] [] [1,3,13,14,15] [decide (0≤(i:Int)∧(i:Int) < (fs.length:Int))] [(aj (decide ((i:Int) < q)),aj true),(RV.bB (fs.getD (i:Int).toNat DV.aG) 0,RV.bB (aI (5)) 0),(aj false,aj false),(aK (IntKind.i64.wrap ((i:Int)+1)),aK ((i+1:Nat):Int))] rfl (by kernel_rfl:bq (bG tl1) 1000 0 _ _ _ _ (wN (.aC 1 fs false) q (i:Int) s (iw kd nd n a x tx (.d (.aC 0 [] true))))=some (aF E5 0,wN (.aC 1 fs false) q ((i+1:Nat):Int) s (iw kd nd n a x tx (.d (.aC 0 [] true))),_,_)) ⟨(by first | rfl | exact c1 | exact c2 | exact c3 | exact c4 | exact c5),trivial⟩ (by refine ⟨?_,?_,?_,?_,trivial⟩<;>(first | exact ah rfl | exact vf | exact vs | exact .of_eq (by rw [hd]) | exact .of_eq (by rw [hx,hd]) | exact .of_eq (by rw [ht]) | exact .of_eq (by rw [ht3]) | exact .of_eq (by rw [hx]) | exact ah (decide_eq_true (by omega)) | exact ah (decide_eq_false (by omega)))) ?_
 exact nx
theorem M4 (fd:DV) (q:Int) (i:Nat) (s:W) (kd nd n a x:Int) (tx:W) (kp:DV) (hi:¬(i:Int) < q):WK Tryz.prog 0 (aF E5 0) (wN fd q (i:Int) s (iw kd nd n a x tx (.d kp))).den (MW s):=by
 have ok:=aJ jU;exact WK.fin ok 1000 0 [(16,aj false)] [] [(aj (decide ((i:Int) < q)),aj false)] rfl (by kernel_rfl:au (bG tl1) true _ 1000 0 _ _ (wN fd q (i:Int) s (iw kd nd n a x tx (.d kp)))=some (aR s,[],_,_)) trivial ⟨(by exact ah (decide_eq_false hi)),trivial⟩ ⟨rfl,rfl⟩
theorem jV (fs:List DV) (i:Nat) (s:W) (kd nd n a x:Int) (tx:W) (kp:DV) (hi:i=fs.length):mE s fs i s kd nd n a x tx kp:=M4 _ _ i s kd nd n a x tx kp (by omega)
def Xg (kp:DV) (l:List Bool):Prop:=gQ kp=true∧mX kp=l
theorem P8 (u:W) (fs:List DV) (i:Nat) (s:W) (kd nd n a x:Int) (tx:W) (kp:DV) (l:List Bool) (hk:Xg kp l) (hi:i≤1000) (hf:fs[i]? = some (.int .i64 5)) (hsl:s.length≤3000000) (nx:mE u fs (i+1) (s++(if l=[] then [] else 32::jf l)) kd nd n a x tx kp):mE u fs i s kd nd n a x tx kp:=by
 obtain ⟨h1,h2⟩:=hk;have h3:=h1;unfold gQ at h3;split at h3
 ·rename_i ks fl;by_cases h0:ks.length=0
  ·have hl:l=[]:=by rw [←h2,List.length_eq_zero_iff.1 h0];rfl
   rw [if_pos hl,List.append_nil] at nx;exact MZ u fs i s kd nd n a x tx ks fl hi hf h0 nx
  ·have hl:¬l=[]:=by
    rw [←h2];intro h;have h:ks.map IC=[]:=h;rw [List.map_eq_nil_iff] at h;rw [h] at h0;exact h0 rfl
   rw [if_neg hl,←h2] at nx;exact P7 u fs i s kd nd n a x tx ks fl hi hf hsl h1 (by omega) nx
 ·have hl:l=[]:=by rw [←h2];rfl
  rw [if_pos hl,List.append_nil] at nx;exact M0 u fs i s kd nd n a x tx hi hf nx
 ·cases h3
end Go.Proofs.YtjoefbioobdinaaGreatDoor
