/-
  Texts that the claim leans on: KI, KJ, AmVh, AmRg, AmRh, N6, AmKr, N7.
-/
import Derived.Test.YtjoefbioobdinaaGreatDoorkd
import Derived.Test.YtjoefbioobdinaaGreatDoorkh
import Derived.Test.YtjoefbioobdinaaGreatDoorkj
import Derived.Maps.RangeRun
namespace Go.Proofs.YtjoefbioobdinaaGreatDoor
open Go.RowKit Am
open Go.aR hiding cut intOf take split
set_option maxRecDepth 100000
set_option linter.unusedVariables false
set_option linter.unusedSimpArgs false
noncomputable abbrev smC:Code:=dS Tryz.f28
noncomputable abbrev sqC:Code:=dS Tryz.f9
noncomputable abbrev EB:Code:=dS Tryz.f27
noncomputable abbrev LnC:Code:=dS Tryz.f11
noncomputable abbrev grC:Code:=dS Tryz.f10
def qb:DV→List Bool
 | .aL 1 ks _=>ks.map Mr
 | _=>[]
def dU:DV→Bool
 | .aL 1 ks _=>ks.all Cv&&decide (ks.length≤1000000)
 | .aL 0 [] true=>true
 | _=>false
def WL:DV→Option (DV×List Bool):=fun d=>some (.str (jo (qb d)),[dU d])
noncomputable def FY:List (Nat×kg):=[(49,e1 WL),(26,e1 WL)]
abbrev dn (kd nd n a x:Int) (tx:W) (kp:DV):DV:=.agg [.int .i64 kd,.int .i64 nd,.int .i64 n,.int .i64 a,.int .u8 x,.str tx,kp]
def tC:DV→DV→Bool
 | .agg [.int .i64 kd,.int .i64 nd,.int .i64 n,.int .i64 a,.int .u8 x,.str tx,kp],.agg [.int .i64 gG,.int .i64 gI,.int .i64 n2,.int .i64 a2,.int .u8 x2,.str iF,fI]=>
   kd==gG&&(nd==gI&&(n==n2&&(a==a2&&(x==x2&&(tx==iF&&jo (qb kp)==jo (qb fI))))))
 | _,_=>false
def Ji:DV→DV
 | .agg [.int .i64 _,.int .i64 _,.int .i64 _,.int .i64 _,.int .u8 _,.str _,kp]=>kp
 | _=>.aD
def isA:DV→Bool
 | .agg [.int .i64 _,.int .i64 _,.int .i64 _,.int .i64 _,.int .u8 _,.str _,_]=>true
 | _=>false
def Vv:DV→DV→Option (DV×List Bool):=fun x y=>some (.bool (tC x y),[isA x,isA y,dU (Ji x),dU (Ji y)])
def FZ:DV→Option (RV×List Bool)
 | .int .i64 k=>some (.bI [.d (.str (Jd k)),.d (CG k.toNat)],[])
 | _=>none
noncomputable def tl1:List (Nat×kg):=[(16,Ce FZ),(48,e1 Yq),(49,e1 WL)]
def wo (fs:DV) (len:Int) (i:Int) (s:W) (ac:List RV):jB:={ n:=84,m:=0,regs:=T.mk [(1,.ptr 200 0),(3,.d (.str s)),(13,.d fs),(14,.d (.int .i64 len)),(15,.d (.int .i64 i))],objs:=T.mk [(200,.box aT ac)] }
theorem Mv {f:Nat} (h1:∀(l:List Bool) (fl:Bool),l.length≤1000000→Go.Am.C Tryz.prog f [.d (.aL 1 (l.map DV.bool) fl)] [] (fun r o=>r = .d (.str (jo l))∧o=[])) (h0:Go.Am.C Tryz.prog f [.d (.aL 0 [] true)] [] (fun r o=>r = .d (.str (jo []))∧o=[])):bU Tryz.prog f (e1 WL):=by
 refine xP fun x y c hg hc=>?_;unfold WL at hg;simp only [Option.some.injEq,Prod.mk.injEq] at hg;obtain ⟨rfl,rfl⟩:=hg;have h:=hc (dU x) (by simp);unfold dU at h;split at h
 ·rename_i ks fl;rw [Bool.and_eq_true] at h;have h3:=h1 (ks.map Mr) fl (by rw [List.length_map];exact of_decide_eq_true h.2);rw [Ms h.1] at h3;exact h3
 ·exact h0
 ·cases h
theorem Mw:dQ Tryz.prog FY:=.cons (Mv WI QB) (.cons (Mv Zo WH) .nil)
theorem kU {d:DV} (h:isA d=true):∃kd nd n a x tx kp,d=dn kd nd n a x tx kp:=by
 unfold isA at h;split at h
 ·exact ⟨_,_,_,_,_,_,_,rfl⟩
 ·cases h
set_option maxHeartbeats 400000 in
theorem Zr (kd nd n a x gG gI n2 a2 x2:Int) (tx iF:W) (kp fI:DV) (h1:dU kp=true) (h2:dU fI=true):Go.Am.C Tryz.prog 28 [.d (dn kd nd n a x tx kp),.d (dn gG gI n2 a2 x2 iF fI)] [] (fun r o=>r = .d (.bool (tC (dn kd nd n a x tx kp) (dn gG gI n2 a2 x2 iF fI)))∧o=[]):=by
 have ok:=aS Mw;refine aY (fn:=Tryz.f28) (body:=smC) true (by kernel_rfl) (by kernel_rfl) (by kernel_rfl) ?_;have hb:tC (dn kd nd n a x tx kp) (dn gG gI n2 a2 x2 iF fI)=(kd==gG&&(nd==gI&&(n==n2&&(a==a2&&(x==x2&&(tx==iF&&jo (qb kp)==jo (qb fI))))))):=rfl;cases f0:(kd==gG) with
 | false=>
   have hq:tC (dn kd nd n a x tx kp) (dn gG gI n2 a2 x2 iF fI)=false:=by rw [hb,f0];rfl
   exact WK.fin ok 1000 0 [(9,ak false)] [] [(ak (kd==gG),ak false)] rfl (by kernel_rfl:aA (bZ FY) true _ 1000 0 _ _ (dY 54 [.d (dn kd nd n a x tx kp),.d (dn gG gI n2 a2 x2 iF fI)] [])=some (ak false,[],_,_)) trivial ⟨(by first | exact ah rfl | exact ah f0 | exact ah f1 | exact ah f2 | exact ah f3 | exact ah f4 | exact ah f5 | exact ah f6),trivial⟩ ⟨by rw [hq],rfl⟩
 | true=>
   cases f1:(nd==gI) with
   | false=>
     have hq:tC (dn kd nd n a x tx kp) (dn gG gI n2 a2 x2 iF fI)=false:=by rw [hb,f0,f1];rfl
     exact WK.fin ok 1000 0 [(9,ak true),(15,ak false)] [] [(ak (kd==gG),ak true),(ak (nd==gI),ak false)] rfl (by kernel_rfl:aA (bZ FY) true _ 1000 0 _ _ (dY 54 [.d (dn kd nd n a x tx kp),.d (dn gG gI n2 a2 x2 iF fI)] [])=some (ak false,[],_,_)) trivial (by refine ⟨?_,?_,trivial⟩<;>(first | exact ah rfl | exact ah f0 | exact ah f1 | exact ah f2 | exact ah f3 | exact ah f4 | exact ah f5 | exact ah f6)) ⟨by rw [hq],rfl⟩
   | true=>
     cases f2:(n==n2) with
     | false=>
       have hq:tC (dn kd nd n a x tx kp) (dn gG gI n2 a2 x2 iF fI)=false:=by rw [hb,f0,f1,f2];rfl
       exact WK.fin ok 1000 0 [(9,ak true),(15,ak true),(22,ak false)] [] [(ak (kd==gG),ak true),(ak (nd==gI),ak true),(ak (n==n2),ak false)] rfl (by kernel_rfl:aA (bZ FY) true _ 1000 0 _ _ (dY 54 [.d (dn kd nd n a x tx kp),.d (dn gG gI n2 a2 x2 iF fI)] [])=some (ak false,[],_,_)) trivial (by refine ⟨?_,?_,?_,trivial⟩<;>(first | exact ah rfl | exact ah f0 | exact ah f1 | exact ah f2 | exact ah f3 | exact ah f4 | exact ah f5 | exact ah f6)) ⟨by rw [hq],rfl⟩
     | true=>
       cases f3:(a==a2) with
       | false=>
         have hq:tC (dn kd nd n a x tx kp) (dn gG gI n2 a2 x2 iF fI)=false:=by rw [hb,f0,f1,f2,f3];rfl
         exact WK.fin ok 1000 0 [(9,ak true),(15,ak true),(22,ak true),(29,ak false)] [] [(ak (kd==gG),ak true),(ak (nd==gI),ak true),(ak (n==n2),ak true),(ak (a==a2),ak false)] rfl (by kernel_rfl:aA (bZ FY) true _ 1000 0 _ _ (dY 54 [.d (dn kd nd n a x tx kp),.d (dn gG gI n2 a2 x2 iF fI)] [])=some (ak false,[],_,_)) trivial (by refine ⟨?_,?_,?_,?_,trivial⟩<;>(first | exact ah rfl | exact ah f0 | exact ah f1 | exact ah f2 | exact ah f3 | exact ah f4 | exact ah f5 | exact ah f6)) ⟨by rw [hq],rfl⟩
       | true=>
         cases f4:(x==x2) with
         | false=>
           have hq:tC (dn kd nd n a x tx kp) (dn gG gI n2 a2 x2 iF fI)=false:=by rw [hb,f0,f1,f2,f3,f4];rfl
           exact WK.fin ok 1000 0 [(9,ak true),(15,ak true),(22,ak true),(29,ak true),(36,ak false)] [] [(ak (kd==gG),ak true),(ak (nd==gI),ak true),(ak (n==n2),ak true),(ak (a==a2),ak true),(ak (x==x2),ak false)] rfl (by kernel_rfl:aA (bZ FY) true _ 1000 0 _ _ (dY 54 [.d (dn kd nd n a x tx kp),.d (dn gG gI n2 a2 x2 iF fI)] [])=some (ak false,[],_,_)) trivial (by refine ⟨?_,?_,?_,?_,?_,trivial⟩<;>(first | exact ah rfl | exact ah f0 | exact ah f1 | exact ah f2 | exact ah f3 | exact ah f4 | exact ah f5 | exact ah f6)) ⟨by rw [hq],rfl⟩
         | true=>
           cases f5:(tx==iF) with
           | false=>
             have hq:tC (dn kd nd n a x tx kp) (dn gG gI n2 a2 x2 iF fI)=false:=by rw [hb,f0,f1,f2,f3,f4,f5];rfl
             exact WK.fin ok 1000 0 [(9,ak true),(15,ak true),(22,ak true),(29,ak true),(36,ak true),(43,ak false)] [] [(ak (kd==gG),ak true),(ak (nd==gI),ak true),(ak (n==n2),ak true),(ak (a==a2),ak true),(ak (x==x2),ak true),(ak (tx==iF),ak false)] rfl (by kernel_rfl:aA (bZ FY) true _ 1000 0 _ _ (dY 54 [.d (dn kd nd n a x tx kp),.d (dn gG gI n2 a2 x2 iF fI)] [])=some (ak false,[],_,_)) trivial (by refine ⟨?_,?_,?_,?_,?_,?_,trivial⟩<;>(first | exact ah rfl | exact ah f0 | exact ah f1 | exact ah f2 | exact ah f3 | exact ah f4 | exact ah f5 | exact ah f6)) ⟨by rw [hq],rfl⟩
           | true=>
             obtain ⟨b,f6⟩:∃b,(jo (qb kp)==jo (qb fI))=b:=⟨_,rfl⟩;have hq:tC (dn kd nd n a x tx kp) (dn gG gI n2 a2 x2 iF fI)=b:=by rw [hb,f0,f1,f2,f3,f4,f5,f6];rfl
             exact WK.fin ok 1000 0 [(9,ak true),(15,ak true),(22,ak true),(29,ak true),(36,ak true),(43,ak true),(52,ak b)] [Go.Proofs.YtjoefbioobdinaaGreatDoor.dU kp,Go.Proofs.YtjoefbioobdinaaGreatDoor.dU fI] [(ak (kd==gG),ak true),(ak (nd==gI),ak true),(ak (n==n2),ak true),(ak (a==a2),ak true),(ak (x==x2),ak true),(ak (tx==iF),ak true),(ak (Go.Proofs.YtjoefbioobdinaaGreatDoor.jo (Go.Proofs.YtjoefbioobdinaaGreatDoor.qb kp)==Go.Proofs.YtjoefbioobdinaaGreatDoor.jo (Go.Proofs.YtjoefbioobdinaaGreatDoor.qb fI)),ak b)] rfl (by kernel_rfl:aA (bZ FY) true _ 1000 0 _ _ (dY 54 [.d (dn kd nd n a x tx kp),.d (dn gG gI n2 a2 x2 iF fI)] [])=some (ak b,[],_,_)) (by refine ⟨?_,?_,trivial⟩<;>(first | rfl | exact h1 | exact h2)) (by refine ⟨?_,?_,?_,?_,?_,?_,?_,trivial⟩<;>(first | exact ah rfl | exact ah f0 | exact ah f1 | exact ah f2 | exact ah f3 | exact ah f4 | exact ah f5 | exact ah f6)) ⟨by rw [hq],rfl⟩
theorem Sm:bU Tryz.prog 28 (e2 Vv):=by
 refine lH fun x x2 y c hg hc=>?_;unfold Vv at hg;simp only [Option.some.injEq,Prod.mk.injEq] at hg;obtain ⟨rfl,rfl⟩:=hg;obtain ⟨kd,nd,n,a,z,tx,kp,rfl⟩:=kU (hc (isA x) (by simp));obtain ⟨gG,gI,n2,a2,z2,iF,fI,rfl⟩:=kU (hc (isA x2) (by simp));exact Zr _ _ _ _ _ _ _ _ _ _ _ _ _ _ (hc (dU (Ji (dn kd nd n a z tx kp))) (by simp)) (hc (dU (Ji (dn gG gI n2 a2 z2 iF fI))) (by simp))
set_option maxHeartbeats 400000 in
theorem Zt (kd nd n a x gG gI n2 a2 x2:Int) (tx iF:W) (kp fI:DV) (h1:dU kp=true) (h2:dU fI=true):Go.Am.C Tryz.prog 9 [.d (dn kd nd n a x tx kp),.d (dn gG gI n2 a2 x2 iF fI)] [] (fun r o=>r = .d (.bool (tC (dn kd nd n a x tx kp) (dn gG gI n2 a2 x2 iF fI)))∧o=[]):=by
 have ok:=aS Mw;refine aY (fn:=Tryz.f9) (body:=sqC) true (by kernel_rfl) (by kernel_rfl) (by kernel_rfl) ?_;have hb:tC (dn kd nd n a x tx kp) (dn gG gI n2 a2 x2 iF fI)=(kd==gG&&(nd==gI&&(n==n2&&(a==a2&&(x==x2&&(tx==iF&&jo (qb kp)==jo (qb fI))))))):=rfl;cases f0:(kd==gG) with
 | false=>
   have hq:tC (dn kd nd n a x tx kp) (dn gG gI n2 a2 x2 iF fI)=false:=by rw [hb,f0];rfl
   exact WK.fin ok 1000 0 [(9,ak false)] [] [(ak (kd==gG),ak false)] rfl (by kernel_rfl:aA (bZ FY) true _ 1000 0 _ _ (dY 54 [.d (dn kd nd n a x tx kp),.d (dn gG gI n2 a2 x2 iF fI)] [])=some (ak false,[],_,_)) trivial ⟨(by first | exact ah rfl | exact ah f0 | exact ah f1 | exact ah f2 | exact ah f3 | exact ah f4 | exact ah f5 | exact ah f6),trivial⟩ ⟨by rw [hq],rfl⟩
 | true=>
   cases f1:(nd==gI) with
   | false=>
     have hq:tC (dn kd nd n a x tx kp) (dn gG gI n2 a2 x2 iF fI)=false:=by rw [hb,f0,f1];rfl
     exact WK.fin ok 1000 0 [(9,ak true),(15,ak false)] [] [(ak (kd==gG),ak true),(ak (nd==gI),ak false)] rfl (by kernel_rfl:aA (bZ FY) true _ 1000 0 _ _ (dY 54 [.d (dn kd nd n a x tx kp),.d (dn gG gI n2 a2 x2 iF fI)] [])=some (ak false,[],_,_)) trivial (by refine ⟨?_,?_,trivial⟩<;>(first | exact ah rfl | exact ah f0 | exact ah f1 | exact ah f2 | exact ah f3 | exact ah f4 | exact ah f5 | exact ah f6)) ⟨by rw [hq],rfl⟩
   | true=>
     cases f2:(n==n2) with
     | false=>
       have hq:tC (dn kd nd n a x tx kp) (dn gG gI n2 a2 x2 iF fI)=false:=by rw [hb,f0,f1,f2];rfl
       exact WK.fin ok 1000 0 [(9,ak true),(15,ak true),(22,ak false)] [] [(ak (kd==gG),ak true),(ak (nd==gI),ak true),(ak (n==n2),ak false)] rfl (by kernel_rfl:aA (bZ FY) true _ 1000 0 _ _ (dY 54 [.d (dn kd nd n a x tx kp),.d (dn gG gI n2 a2 x2 iF fI)] [])=some (ak false,[],_,_)) trivial (by refine ⟨?_,?_,?_,trivial⟩<;>(first | exact ah rfl | exact ah f0 | exact ah f1 | exact ah f2 | exact ah f3 | exact ah f4 | exact ah f5 | exact ah f6)) ⟨by rw [hq],rfl⟩
     | true=>
       cases f3:(a==a2) with
       | false=>
         have hq:tC (dn kd nd n a x tx kp) (dn gG gI n2 a2 x2 iF fI)=false:=by rw [hb,f0,f1,f2,f3];rfl
         exact WK.fin ok 1000 0 [(9,ak true),(15,ak true),(22,ak true),(29,ak false)] [] [(ak (kd==gG),ak true),(ak (nd==gI),ak true),(ak (n==n2),ak true),(ak (a==a2),ak false)] rfl (by kernel_rfl:aA (bZ FY) true _ 1000 0 _ _ (dY 54 [.d (dn kd nd n a x tx kp),.d (dn gG gI n2 a2 x2 iF fI)] [])=some (ak false,[],_,_)) trivial (by refine ⟨?_,?_,?_,?_,trivial⟩<;>(first | exact ah rfl | exact ah f0 | exact ah f1 | exact ah f2 | exact ah f3 | exact ah f4 | exact ah f5 | exact ah f6)) ⟨by rw [hq],rfl⟩
       | true=>
         cases f4:(x==x2) with
         | false=>
           have hq:tC (dn kd nd n a x tx kp) (dn gG gI n2 a2 x2 iF fI)=false:=by rw [hb,f0,f1,f2,f3,f4];rfl
           exact WK.fin ok 1000 0 [(9,ak true),(15,ak true),(22,ak true),(29,ak true),(36,ak false)] [] [(ak (kd==gG),ak true),(ak (nd==gI),ak true),(ak (n==n2),ak true),(ak (a==a2),ak true),(ak (x==x2),ak false)] rfl (by kernel_rfl:aA (bZ FY) true _ 1000 0 _ _ (dY 54 [.d (dn kd nd n a x tx kp),.d (dn gG gI n2 a2 x2 iF fI)] [])=some (ak false,[],_,_)) trivial (by refine ⟨?_,?_,?_,?_,?_,trivial⟩<;>(first | exact ah rfl | exact ah f0 | exact ah f1 | exact ah f2 | exact ah f3 | exact ah f4 | exact ah f5 | exact ah f6)) ⟨by rw [hq],rfl⟩
         | true=>
           cases f5:(tx==iF) with
           | false=>
             have hq:tC (dn kd nd n a x tx kp) (dn gG gI n2 a2 x2 iF fI)=false:=by rw [hb,f0,f1,f2,f3,f4,f5];rfl
             exact WK.fin ok 1000 0 [(9,ak true),(15,ak true),(22,ak true),(29,ak true),(36,ak true),(43,ak false)] [] [(ak (kd==gG),ak true),(ak (nd==gI),ak true),(ak (n==n2),ak true),(ak (a==a2),ak true),(ak (x==x2),ak true),(ak (tx==iF),ak false)] rfl (by kernel_rfl:aA (bZ FY) true _ 1000 0 _ _ (dY 54 [.d (dn kd nd n a x tx kp),.d (dn gG gI n2 a2 x2 iF fI)] [])=some (ak false,[],_,_)) trivial (by refine ⟨?_,?_,?_,?_,?_,?_,trivial⟩<;>(first | exact ah rfl | exact ah f0 | exact ah f1 | exact ah f2 | exact ah f3 | exact ah f4 | exact ah f5 | exact ah f6)) ⟨by rw [hq],rfl⟩
           | true=>
             obtain ⟨b,f6⟩:∃b,(jo (qb kp)==jo (qb fI))=b:=⟨_,rfl⟩;have hq:tC (dn kd nd n a x tx kp) (dn gG gI n2 a2 x2 iF fI)=b:=by rw [hb,f0,f1,f2,f3,f4,f5,f6];rfl
             exact WK.fin ok 1000 0 [(9,ak true),(15,ak true),(22,ak true),(29,ak true),(36,ak true),(43,ak true),(52,ak b)] [Go.Proofs.YtjoefbioobdinaaGreatDoor.dU kp,Go.Proofs.YtjoefbioobdinaaGreatDoor.dU fI] [(ak (kd==gG),ak true),(ak (nd==gI),ak true),(ak (n==n2),ak true),(ak (a==a2),ak true),(ak (x==x2),ak true),(ak (tx==iF),ak true),(ak (Go.Proofs.YtjoefbioobdinaaGreatDoor.jo (Go.Proofs.YtjoefbioobdinaaGreatDoor.qb kp)==Go.Proofs.YtjoefbioobdinaaGreatDoor.jo (Go.Proofs.YtjoefbioobdinaaGreatDoor.qb fI)),ak b)] rfl (by kernel_rfl:aA (bZ FY) true _ 1000 0 _ _ (dY 54 [.d (dn kd nd n a x tx kp),.d (dn gG gI n2 a2 x2 iF fI)] [])=some (ak b,[],_,_)) (by refine ⟨?_,?_,trivial⟩<;>(first | rfl | exact h1 | exact h2)) (by refine ⟨?_,?_,?_,?_,?_,?_,?_,trivial⟩<;>(first | exact ah rfl | exact ah f0 | exact ah f1 | exact ah f2 | exact ah f3 | exact ah f4 | exact ah f5 | exact ah f6)) ⟨by rw [hq],rfl⟩
theorem Sn:bU Tryz.prog 9 (e2 Vv):=by
 refine lH fun x x2 y c hg hc=>?_;unfold Vv at hg;simp only [Option.some.injEq,Prod.mk.injEq] at hg;obtain ⟨rfl,rfl⟩:=hg;obtain ⟨kd,nd,n,a,z,tx,kp,rfl⟩:=kU (hc (isA x) (by simp));obtain ⟨gG,gI,n2,a2,z2,iF,fI,rfl⟩:=kU (hc (isA x2) (by simp));exact Zt _ _ _ _ _ _ _ _ _ _ _ _ _ _ (hc (dU (Ji (dn kd nd n a z tx kp))) (by simp)) (hc (dU (Ji (dn gG gI n2 a2 z2 iF fI))) (by simp))
set_option maxHeartbeats 400000 in
theorem Pp (q:Int) (h:¬(1≤q∧q≤14)):Go.Am.C Tryz.prog 16 [.d (.int .i64 q)] [] (fun r o=>r = .bI [.d (.str []),.d (.aL 0 [] true)]∧o=[]):=by
 have ok:=aS (l:=[]) .nil;refine aY (fn:=Tryz.f16) (body:=FT) true (by kernel_rfl) (by kernel_rfl) (by kernel_rfl) ?_;exact WK.fin ok 1000 0 [(6,ak false),(9,ak false),(12,ak false),(15,ak false),(18,ak false),(21,ak false),(24,ak false),(27,ak false),(30,ak false),(33,ak false),(36,ak false),(38,ak false),(41,ak false),(43,ak false)] [] [(ak (q==1),ak false),(ak (q==2),ak false),(ak (q==3),ak false),(ak (q==4),ak false),(ak (q==5),ak false),(ak (q==6),ak false),(ak (q==7),ak false),(ak (q==8),ak false),(ak (q==9),ak false),(ak (q==10),ak false),(ak (q==11),ak false),(ak (q==12),ak false),(ak (q==13),ak false),(ak (q==14),ak false)] rfl (by kernel_rfl:aA (bZ []) true _ 1000 0 _ _ (dY 45 [.d (.int .i64 q)] [])=some (RV.bI [bH [],RV.d (DV.aL 0 [] true)],[],_,_)) trivial (by refine ⟨?_,?_,?_,?_,?_,?_,?_,?_,?_,?_,?_,?_,?_,?_,trivial⟩<;>(exact ah (beq_false_of_ne (by omega)))) ⟨rfl,rfl⟩
theorem Mx {k:Nat} (h:¬(1≤k∧k≤14)):kw k=[]∧Zg k=[]:=by
 match k,h with
 | 0,_=>exact ⟨rfl,rfl⟩
 | 1,h=>exact absurd (by omega) h
 | 2,h=>exact absurd (by omega) h
 | 3,h=>exact absurd (by omega) h
 | 4,h=>exact absurd (by omega) h
 | 5,h=>exact absurd (by omega) h
 | 6,h=>exact absurd (by omega) h
 | 7,h=>exact absurd (by omega) h
 | 8,h=>exact absurd (by omega) h
 | 9,h=>exact absurd (by omega) h
 | 10,h=>exact absurd (by omega) h
 | 11,h=>exact absurd (by omega) h
 | 12,h=>exact absurd (by omega) h
 | 13,h=>exact absurd (by omega) h
 | 14,h=>exact absurd (by omega) h
 | k+15,_=>exact ⟨rfl,rfl⟩
theorem MB:bU Tryz.prog 16 (Ce FZ):=by
 refine oI fun x y c hg hc=>?_;unfold FZ at hg;split at hg
 ·rename_i k;simp only [Option.some.injEq,Prod.mk.injEq] at hg;obtain ⟨rfl,rfl⟩:=hg;by_cases h:1≤k∧k≤14
  ·obtain ⟨n,rfl⟩:=Int.eq_ofNat_of_zero_le (show 0≤k by omega);exact LP n (by omega)
  ·have h2:¬(1≤k.toNat∧k.toNat≤14):=by omega
   obtain ⟨e1,e2⟩:=Mx h2;have e3:CG k.toNat = .aL 0 [] true:=by unfold CG;rw [e2];rfl
   have e4:Jd k=[]:=e1;rw [e3,e4];exact Pp k h
 ·cases hg
theorem jF:dQ Tryz.prog tl1:=.cons MB (.cons (QC Zq) (.cons (Mv WI QB) .nil))
abbrev MC (t:W):bP→Prop:=Aa (Tryz.f27.results.toList) 0 (fun r o=>r = .d (.str t)∧o=[])
abbrev lK (u:W) (fs:List DV) (i:Nat) (s:W) (kd nd n a x:Int) (tx:W) (kp:DV):Prop:=WK Tryz.prog 0 (aC EB 0) (wo (.aL 1 fs false) (fs.length:Int) (i:Int) s (gN kd nd n a x tx (.d kp))).den (MC u)
theorem ig {n:Int} (h:tO n):(Lib.itoa n).length≤21:=by
 unfold Lib.itoa;split
 ·have:=Cw (u:=n.natAbs) (by omega);simp only [List.length_cons];omega
 ·have:=Cw (u:=n.toNat) (by omega);omega
set_option maxHeartbeats 400000 in
theorem qc (u:W) (fs:List DV) (i:Nat) (s:W) (kd nd n a x:Int) (tx:W) (kp:DV) (hi:i≤1000) (hf:fs[i]? = some (.int .i64 0)) (hsl:s.length≤3000000) (hv:tO nd) (nx:lK u fs (i+1) (s++32::Lib.itoa nd) kd nd n a x tx kp):lK u fs i s kd nd n a x tx kp:=by
 have ok:=aS jF;have hl:=eP hf;have vf:=eH hf;have vs:=bY (i:=i) (by omega);have c1:decide ((0:Int)≤(Nat.cast (R:=Int) i)∧(Nat.cast (R:=Int) i) < (Nat.cast (R:=Int) fs.length))=true:=decide_eq_true (by omega);obtain ⟨q,hq⟩:∃q:Int,(fs.length:Int)=q:=⟨_,rfl⟩;have c2:decide (-9223372036854775808≤nd)=true:=decide_eq_true hv.1;have c3:decide (nd≤9223372036854775807)=true:=decide_eq_true hv.2;obtain ⟨d,hd⟩:∃d:W,Lib.itoa nd=d:=⟨_,rfl⟩;obtain ⟨t,ht⟩:∃t:W,s++([(32:UInt8)]++d)=t:=⟨_,rfl⟩;have ht2:s++32::Lib.itoa nd=t:=by rw [hd];exact ht
 have hdl:d.length≤1100000:=by rw [←hd];exact (by have:=ig hv;omega)
 have c4:decide ([(32:UInt8)].length+d.length≤2 ^ 62)=true:=decide_eq_true (by simp only [List.length_cons,List.length_nil];omega);have c5:decide (s.length+([(32:UInt8)]++d).length≤2 ^ 62)=true:=decide_eq_true (by simp only [List.length_append,List.length_cons,List.length_nil];omega);rw [lK,ht2,hq] at nx;rw [lK,hq];refine WK.dZ ok 1000 0 [(16,ak true),(17,RV.bf (aI (0)) 0),(25,bH d),(27,bH t),(82,aP ((i+1:Nat):Int))] [] [1,3,13,14,15] [decide (0≤(i:Int)∧(i:Int) < (fs.length:Int)),decide (-9223372036854775808≤nd),decide (nd≤9223372036854775807),decide (([32]:List UInt8).length+List.length d≤2 ^ 62),decide (List.length s+(([32]:List UInt8)++d).length≤2 ^ 62)] [(ak (decide ((i:Int) < q)),ak true),(RV.bf (fs.getD (i:Int).toNat DV.aD) 0,RV.bf (aI (0)) 0),(bH (Go.Lib.itoa nd),bH d),(bH (s++([(32:UInt8)]++d)),bH t),(aP (IntKind.i64.wrap ((i:Int)+1)),aP ((i+1:Nat):Int))] rfl (by kernel_rfl:bg (bZ tl1) 1000 0 _ _ _ _ (wo (.aL 1 fs false) q (i:Int) s (gN kd nd n a x tx (.d kp)))=some (aC EB 0,wo (.aL 1 fs false) q ((i+1:Nat):Int) t (gN kd nd n a x tx (.d kp)),_,_)) (by refine ⟨?_,?_,?_,?_,?_,trivial⟩<;>(first | rfl | exact c1 | exact c2 | exact c3 | exact c4 | exact c5)) (by refine ⟨?_,?_,?_,?_,?_,trivial⟩<;>(first | exact ah rfl | exact vf | exact vs | exact .of_eq (by rw [hd]) | exact .of_eq (by rw [hx,hd]) | exact .of_eq (by rw [ht]) | exact .of_eq (by rw [ht3]) | exact .of_eq (by rw [hx]) | exact ah (decide_eq_true (by omega)) | exact ah (decide_eq_false (by omega)))) ?_
 exact nx
set_option maxHeartbeats 400000 in
theorem nN (u:W) (fs:List DV) (i:Nat) (s:W) (kd nd n a x:Int) (tx:W) (kp:DV) (hi:i≤1000) (hf:fs[i]? = some (.int .i64 1)) (hsl:s.length≤3000000) (hv:tO n) (nx:lK u fs (i+1) (s++32::Lib.itoa n) kd nd n a x tx kp):lK u fs i s kd nd n a x tx kp:=by
 have ok:=aS jF;have hl:=eP hf;have vf:=eH hf;have vs:=bY (i:=i) (by omega);have c1:decide ((0:Int)≤(Nat.cast (R:=Int) i)∧(Nat.cast (R:=Int) i) < (Nat.cast (R:=Int) fs.length))=true:=decide_eq_true (by omega);obtain ⟨q,hq⟩:∃q:Int,(fs.length:Int)=q:=⟨_,rfl⟩;have c2:decide (-9223372036854775808≤n)=true:=decide_eq_true hv.1;have c3:decide (n≤9223372036854775807)=true:=decide_eq_true hv.2;obtain ⟨d,hd⟩:∃d:W,Lib.itoa n=d:=⟨_,rfl⟩;obtain ⟨t,ht⟩:∃t:W,s++([(32:UInt8)]++d)=t:=⟨_,rfl⟩;have ht2:s++32::Lib.itoa n=t:=by rw [hd];exact ht
 have hdl:d.length≤1100000:=by rw [←hd];exact (by have:=ig hv;omega)
 have c4:decide ([(32:UInt8)].length+d.length≤2 ^ 62)=true:=decide_eq_true (by simp only [List.length_cons,List.length_nil];omega);have c5:decide (s.length+([(32:UInt8)]++d).length≤2 ^ 62)=true:=decide_eq_true (by simp only [List.length_append,List.length_cons,List.length_nil];omega);rw [lK,ht2,hq] at nx;rw [lK,hq];refine WK.dZ ok 1000 0 [(16,ak true),(17,RV.bf (aI (1)) 0),(33,bH d),(35,bH t),(82,aP ((i+1:Nat):Int))] [] [1,3,13,14,15] [decide (0≤(i:Int)∧(i:Int) < (fs.length:Int)),decide (-9223372036854775808≤n),decide (n≤9223372036854775807),decide (([32]:List UInt8).length+List.length d≤2 ^ 62),decide (List.length s+(([32]:List UInt8)++d).length≤2 ^ 62)] [(ak (decide ((i:Int) < q)),ak true),(RV.bf (fs.getD (i:Int).toNat DV.aD) 0,RV.bf (aI (1)) 0),(bH (Go.Lib.itoa n),bH d),(bH (s++([(32:UInt8)]++d)),bH t),(aP (IntKind.i64.wrap ((i:Int)+1)),aP ((i+1:Nat):Int))] rfl (by kernel_rfl:bg (bZ tl1) 1000 0 _ _ _ _ (wo (.aL 1 fs false) q (i:Int) s (gN kd nd n a x tx (.d kp)))=some (aC EB 0,wo (.aL 1 fs false) q ((i+1:Nat):Int) t (gN kd nd n a x tx (.d kp)),_,_)) (by refine ⟨?_,?_,?_,?_,?_,trivial⟩<;>(first | rfl | exact c1 | exact c2 | exact c3 | exact c4 | exact c5)) (by refine ⟨?_,?_,?_,?_,?_,trivial⟩<;>(first | exact ah rfl | exact vf | exact vs | exact .of_eq (by rw [hd]) | exact .of_eq (by rw [hx,hd]) | exact .of_eq (by rw [ht]) | exact .of_eq (by rw [ht3]) | exact .of_eq (by rw [hx]) | exact ah (decide_eq_true (by omega)) | exact ah (decide_eq_false (by omega)))) ?_
 exact nx
set_option maxHeartbeats 400000 in
theorem ME (u:W) (fs:List DV) (i:Nat) (s:W) (kd nd n a x:Int) (tx:W) (kp:DV) (hi:i≤1000) (hf:fs[i]? = some (.int .i64 2)) (hsl:s.length≤3000000) (hv:tO a) (nx:lK u fs (i+1) (s++32::Lib.itoa a) kd nd n a x tx kp):lK u fs i s kd nd n a x tx kp:=by
 have ok:=aS jF;have hl:=eP hf;have vf:=eH hf;have vs:=bY (i:=i) (by omega);have c1:decide ((0:Int)≤(Nat.cast (R:=Int) i)∧(Nat.cast (R:=Int) i) < (Nat.cast (R:=Int) fs.length))=true:=decide_eq_true (by omega);obtain ⟨q,hq⟩:∃q:Int,(fs.length:Int)=q:=⟨_,rfl⟩;have c2:decide (-9223372036854775808≤a)=true:=decide_eq_true hv.1;have c3:decide (a≤9223372036854775807)=true:=decide_eq_true hv.2;obtain ⟨d,hd⟩:∃d:W,Lib.itoa a=d:=⟨_,rfl⟩;obtain ⟨t,ht⟩:∃t:W,s++([(32:UInt8)]++d)=t:=⟨_,rfl⟩;have ht2:s++32::Lib.itoa a=t:=by rw [hd];exact ht
 have hdl:d.length≤1100000:=by rw [←hd];exact (by have:=ig hv;omega)
 have c4:decide ([(32:UInt8)].length+d.length≤2 ^ 62)=true:=decide_eq_true (by simp only [List.length_cons,List.length_nil];omega);have c5:decide (s.length+([(32:UInt8)]++d).length≤2 ^ 62)=true:=decide_eq_true (by simp only [List.length_append,List.length_cons,List.length_nil];omega);rw [lK,ht2,hq] at nx;rw [lK,hq];refine WK.dZ ok 1000 0 [(16,ak true),(17,RV.bf (aI (2)) 0),(41,bH d),(43,bH t),(82,aP ((i+1:Nat):Int))] [] [1,3,13,14,15] [decide (0≤(i:Int)∧(i:Int) < (fs.length:Int)),decide (-9223372036854775808≤a),decide (a≤9223372036854775807),decide (([32]:List UInt8).length+List.length d≤2 ^ 62),decide (List.length s+(([32]:List UInt8)++d).length≤2 ^ 62)] [(ak (decide ((i:Int) < q)),ak true),(RV.bf (fs.getD (i:Int).toNat DV.aD) 0,RV.bf (aI (2)) 0),(bH (Go.Lib.itoa a),bH d),(bH (s++([(32:UInt8)]++d)),bH t),(aP (IntKind.i64.wrap ((i:Int)+1)),aP ((i+1:Nat):Int))] rfl (by kernel_rfl:bg (bZ tl1) 1000 0 _ _ _ _ (wo (.aL 1 fs false) q (i:Int) s (gN kd nd n a x tx (.d kp)))=some (aC EB 0,wo (.aL 1 fs false) q ((i+1:Nat):Int) t (gN kd nd n a x tx (.d kp)),_,_)) (by refine ⟨?_,?_,?_,?_,?_,trivial⟩<;>(first | rfl | exact c1 | exact c2 | exact c3 | exact c4 | exact c5)) (by refine ⟨?_,?_,?_,?_,?_,trivial⟩<;>(first | exact ah rfl | exact vf | exact vs | exact .of_eq (by rw [hd]) | exact .of_eq (by rw [hx,hd]) | exact .of_eq (by rw [ht]) | exact .of_eq (by rw [ht3]) | exact .of_eq (by rw [hx]) | exact ah (decide_eq_true (by omega)) | exact ah (decide_eq_false (by omega)))) ?_
 exact nx
set_option maxHeartbeats 400000 in
theorem Pq (u:W) (fs:List DV) (i:Nat) (s:W) (kd nd n a x:Int) (tx:W) (kp:DV) (hi:i≤1000) (hf:fs[i]? = some (.int .i64 3)) (hsl:s.length≤3000000) (hx0:0≤x∧x≤255) (nx:lK u fs (i+1) (s++32::Lib.itoa x) kd nd n a x tx kp):lK u fs i s kd nd n a x tx kp:=by
 have ok:=aS jF;have hl:=eP hf;have vf:=eH hf;have vs:=bY (i:=i) (by omega);have c1:decide ((0:Int)≤(Nat.cast (R:=Int) i)∧(Nat.cast (R:=Int) i) < (Nat.cast (R:=Int) fs.length))=true:=decide_eq_true (by omega);obtain ⟨q,hq⟩:∃q:Int,(fs.length:Int)=q:=⟨_,rfl⟩;have hx:IntKind.i64.wrap x=x:=fF x (by omega);have c2:decide (-9223372036854775808≤IntKind.i64.wrap x)=true:=by rw [hx];exact decide_eq_true (by omega)
 have c3:decide (IntKind.i64.wrap x≤9223372036854775807)=true:=by rw [hx];exact decide_eq_true (by omega)
 obtain ⟨d,hd⟩:∃d:W,Lib.itoa x=d:=⟨_,rfl⟩;obtain ⟨t,ht⟩:∃t:W,s++([(32:UInt8)]++d)=t:=⟨_,rfl⟩;have ht2:s++32::Lib.itoa x=t:=by rw [hd];exact ht
 have hdl:d.length≤1100000:=by rw [←hd];exact (by have:=ig (n:=x) ⟨by omega,by omega⟩;omega)
 have c4:decide ([(32:UInt8)].length+d.length≤2 ^ 62)=true:=decide_eq_true (by simp only [List.length_cons,List.length_nil];omega);have c5:decide (s.length+([(32:UInt8)]++d).length≤2 ^ 62)=true:=decide_eq_true (by simp only [List.length_append,List.length_cons,List.length_nil];omega);rw [lK,ht2,hq] at nx;rw [lK,hq];refine WK.dZ ok 1000 0 [(16,ak true),(17,RV.bf (aI (3)) 0),(50,bH d),(52,bH t),(82,aP ((i+1:Nat):Int))] [] [1,3,13,14,15] [decide (0≤(i:Int)∧(i:Int) < (fs.length:Int)),decide (-9223372036854775808≤IntKind.i64.wrap x),decide (IntKind.i64.wrap x≤9223372036854775807),decide (([32]:List UInt8).length+List.length d≤2 ^ 62),decide (List.length s+(([32]:List UInt8)++d).length≤2 ^ 62)] [(ak (decide ((i:Int) < q)),ak true),(RV.bf (fs.getD (i:Int).toNat DV.aD) 0,RV.bf (aI (3)) 0),(bH (Go.Lib.itoa (IntKind.i64.wrap x)),bH d),(bH (s++([(32:UInt8)]++d)),bH t),(aP (IntKind.i64.wrap ((i:Int)+1)),aP ((i+1:Nat):Int))] rfl (by kernel_rfl:bg (bZ tl1) 1000 0 _ _ _ _ (wo (.aL 1 fs false) q (i:Int) s (gN kd nd n a x tx (.d kp)))=some (aC EB 0,wo (.aL 1 fs false) q ((i+1:Nat):Int) t (gN kd nd n a x tx (.d kp)),_,_)) (by refine ⟨?_,?_,?_,?_,?_,trivial⟩<;>(first | rfl | exact c1 | exact c2 | exact c3 | exact c4 | exact c5)) (by refine ⟨?_,?_,?_,?_,?_,trivial⟩<;>(first | exact ah rfl | exact vf | exact vs | exact .of_eq (by rw [hd]) | exact .of_eq (by rw [hx,hd]) | exact .of_eq (by rw [ht]) | exact .of_eq (by rw [ht3]) | exact .of_eq (by rw [hx]) | exact ah (decide_eq_true (by omega)) | exact ah (decide_eq_false (by omega)))) ?_
 exact nx
set_option maxHeartbeats 400000 in
theorem Pt (u:W) (fs:List DV) (i:Nat) (s:W) (kd nd n a x:Int) (tx:W) (kp:DV) (hi:i≤1000) (hf:fs[i]? = some (.int .i64 6)) (hsl:s.length≤3000000) (hv:tx.length≤1000000) (nx:lK u fs (i+1) (s++32::tx) kd nd n a x tx kp):lK u fs i s kd nd n a x tx kp:=by
 have ok:=aS jF;have hl:=eP hf;have vf:=eH hf;have vs:=bY (i:=i) (by omega);have c1:decide ((0:Int)≤(Nat.cast (R:=Int) i)∧(Nat.cast (R:=Int) i) < (Nat.cast (R:=Int) fs.length))=true:=decide_eq_true (by omega);obtain ⟨q,hq⟩:∃q:Int,(fs.length:Int)=q:=⟨_,rfl⟩;obtain ⟨t,ht⟩:∃t:W,s++([(32:UInt8)]++tx)=t:=⟨_,rfl⟩;have ht2:s++32::tx=t:=ht;have c4:decide ([(32:UInt8)].length+tx.length≤2 ^ 62)=true:=decide_eq_true (by simp only [List.length_cons,List.length_nil];omega);have c5:decide (s.length+([(32:UInt8)]++tx).length≤2 ^ 62)=true:=decide_eq_true (by simp only [List.length_append,List.length_cons,List.length_nil];omega);rw [lK,ht2,hq] at nx;rw [lK,hq];refine WK.dZ ok 1000 0 [(16,ak true),(17,RV.bf (aI (6)) 0),(69,bH t),(82,aP ((i+1:Nat):Int))] [] [1,3,13,14,15] [decide (0≤(i:Int)∧(i:Int) < (fs.length:Int)),decide (([32]:List UInt8).length+List.length tx≤2 ^ 62),decide (List.length s+(([32]:List UInt8)++tx).length≤2 ^ 62)] [(ak (decide ((i:Int) < q)),ak true),(RV.bf (fs.getD (i:Int).toNat DV.aD) 0,RV.bf (aI (6)) 0),(bH (s++([(32:UInt8)]++tx)),bH t),(aP (IntKind.i64.wrap ((i:Int)+1)),aP ((i+1:Nat):Int))] rfl (by kernel_rfl:bg (bZ tl1) 1000 0 _ _ _ _ (wo (.aL 1 fs false) q (i:Int) s (gN kd nd n a x tx (.d kp)))=some (aC EB 0,wo (.aL 1 fs false) q ((i+1:Nat):Int) t (gN kd nd n a x tx (.d kp)),_,_)) (by refine ⟨?_,?_,?_,trivial⟩<;>(first | rfl | exact c1 | exact c2 | exact c3 | exact c4 | exact c5)) (by refine ⟨?_,?_,?_,?_,trivial⟩<;>(first | exact ah rfl | exact vf | exact vs | exact .of_eq (by rw [hd]) | exact .of_eq (by rw [hx,hd]) | exact .of_eq (by rw [ht]) | exact .of_eq (by rw [ht3]) | exact .of_eq (by rw [hx]) | exact ah (decide_eq_true (by omega)) | exact ah (decide_eq_false (by omega)))) ?_
 exact nx
set_option maxHeartbeats 400000 in
theorem Pv (u:W) (fs:List DV) (i:Nat) (s:W) (kd nd n a x:Int) (tx:W) (kp:DV) (hi:i≤1000) (hf:fs[i]? = some (.int .i64 4)) (hsl:s.length≤3000000) (hx0:0≤x∧x≤255) (hx1:x % 2=0) (nx:lK u fs (i+1) (s++32::[(115:UInt8),(112:UInt8),(97:UInt8),(99:UInt8),(101:UInt8)]) kd nd n a x tx kp):lK u fs i s kd nd n a x tx kp:=by
 have ok:=aS jF;have hl:=eP hf;have vf:=eH hf;have vs:=bY (i:=i) (by omega);have c1:decide ((0:Int)≤(Nat.cast (R:=Int) i)∧(Nat.cast (R:=Int) i) < (Nat.cast (R:=Int) fs.length))=true:=decide_eq_true (by omega);obtain ⟨q,hq⟩:∃q:Int,(fs.length:Int)=q:=⟨_,rfl⟩
 have hd:bits Go.BinOp.and .u8 x 1=0:=by
  obtain ⟨m,hm⟩:=Int.eq_ofNat_of_zero_le hx0.1
  have:∀m:Fin 256,bits Go.BinOp.and .u8 ((m.val:Nat):Int) 1=((m.val % 2:Nat):Int):=by decide +kernel
  have h:=this ⟨m,by omega⟩;rw [hm,h];simp only;omega
 obtain ⟨t,ht⟩:∃t:W,s++([(32:UInt8)]++[(115:UInt8),(112:UInt8),(97:UInt8),(99:UInt8),(101:UInt8)])=t:=⟨_,rfl⟩;have ht2:s++32::[(115:UInt8),(112:UInt8),(97:UInt8),(99:UInt8),(101:UInt8)]=t:=ht;have ht3:s++((32:UInt8)::[(115:UInt8),(112:UInt8),(97:UInt8),(99:UInt8),(101:UInt8)])=t:=ht;have c5:decide (s.length+([(32:UInt8)]++[(115:UInt8),(112:UInt8),(97:UInt8),(99:UInt8),(101:UInt8)]).length≤2 ^ 62)=true:=decide_eq_true (by simp only [List.length_append,List.length_cons,List.length_nil];omega);rw [lK,ht2,hq] at nx;rw [lK,hq];refine WK.dZ ok 1000 0 [(16,ak true),(17,RV.bf (aI (4)) 0),(59,fZ (0)),(62,bH t),(82,aP ((i+1:Nat):Int))] [] [1,3,13,14,15] [decide (0≤(i:Int)∧(i:Int) < (fs.length:Int)),true,true,decide (List.length s+(([32]:List UInt8)++([115,112,97,99,101]:List UInt8)).length≤2 ^ 62)] [(ak (decide ((i:Int) < q)),ak true),(RV.bf (fs.getD (i:Int).toNat DV.aD) 0,RV.bf (aI (4)) 0),(fZ (bits Go.BinOp.and IntKind.u8 x (1)),fZ (0)),(bH (s++[(32:UInt8),(115:UInt8),(112:UInt8),(97:UInt8),(99:UInt8),(101:UInt8)]),bH t),(aP (IntKind.i64.wrap ((i:Int)+1)),aP ((i+1:Nat):Int))] rfl (by kernel_rfl:bg (bZ tl1) 1000 0 _ _ _ _ (wo (.aL 1 fs false) q (i:Int) s (gN kd nd n a x tx (.d kp)))=some (aC EB 0,wo (.aL 1 fs false) q ((i+1:Nat):Int) t (gN kd nd n a x tx (.d kp)),_,_)) (by refine ⟨?_,?_,?_,?_,trivial⟩<;>(first | rfl | exact c1 | exact c2 | exact c3 | exact c4 | exact c5)) (by refine ⟨?_,?_,?_,?_,?_,trivial⟩<;>(first | exact ah rfl | exact vf | exact vs | exact .of_eq (by rw [hd]) | exact .of_eq (by rw [hx,hd]) | exact .of_eq (by rw [ht]) | exact .of_eq (by rw [ht3]) | exact .of_eq (by rw [hx]) | exact ah (decide_eq_true (by omega)) | exact ah (decide_eq_false (by omega)))) ?_
 exact nx
set_option maxHeartbeats 400000 in
theorem Pw (u:W) (fs:List DV) (i:Nat) (s:W) (kd nd n a x:Int) (tx:W) (kp:DV) (hi:i≤1000) (hf:fs[i]? = some (.int .i64 4)) (hsl:s.length≤3000000) (hx0:0≤x∧x≤255) (hx1:x % 2=1) (nx:lK u fs (i+1) (s++32::[(105:UInt8),(111:UInt8)]) kd nd n a x tx kp):lK u fs i s kd nd n a x tx kp:=by
 have ok:=aS jF;have hl:=eP hf;have vf:=eH hf;have vs:=bY (i:=i) (by omega);have c1:decide ((0:Int)≤(Nat.cast (R:=Int) i)∧(Nat.cast (R:=Int) i) < (Nat.cast (R:=Int) fs.length))=true:=decide_eq_true (by omega);obtain ⟨q,hq⟩:∃q:Int,(fs.length:Int)=q:=⟨_,rfl⟩
 have hd:bits Go.BinOp.and .u8 x 1=1:=by
  obtain ⟨m,hm⟩:=Int.eq_ofNat_of_zero_le hx0.1
  have:∀m:Fin 256,bits Go.BinOp.and .u8 ((m.val:Nat):Int) 1=((m.val % 2:Nat):Int):=by decide +kernel
  have h:=this ⟨m,by omega⟩;rw [hm,h];simp only;omega
 obtain ⟨t,ht⟩:∃t:W,s++([(32:UInt8)]++[(105:UInt8),(111:UInt8)])=t:=⟨_,rfl⟩;have ht2:s++32::[(105:UInt8),(111:UInt8)]=t:=ht;have ht3:s++((32:UInt8)::[(105:UInt8),(111:UInt8)])=t:=ht;have c5:decide (s.length+([(32:UInt8)]++[(105:UInt8),(111:UInt8)]).length≤2 ^ 62)=true:=decide_eq_true (by simp only [List.length_append,List.length_cons,List.length_nil];omega);rw [lK,ht2,hq] at nx;rw [lK,hq];refine WK.dZ ok 1000 0 [(16,ak true),(17,RV.bf (aI (4)) 0),(59,fZ (1)),(62,bH t),(82,aP ((i+1:Nat):Int))] [] [1,3,13,14,15] [decide (0≤(i:Int)∧(i:Int) < (fs.length:Int)),true,true,decide (List.length s+(([32]:List UInt8)++([105,111]:List UInt8)).length≤2 ^ 62)] [(ak (decide ((i:Int) < q)),ak true),(RV.bf (fs.getD (i:Int).toNat DV.aD) 0,RV.bf (aI (4)) 0),(fZ (bits Go.BinOp.and IntKind.u8 x (1)),fZ (1)),(bH (s++[(32:UInt8),(105:UInt8),(111:UInt8)]),bH t),(aP (IntKind.i64.wrap ((i:Int)+1)),aP ((i+1:Nat):Int))] rfl (by kernel_rfl:bg (bZ tl1) 1000 0 _ _ _ _ (wo (.aL 1 fs false) q (i:Int) s (gN kd nd n a x tx (.d kp)))=some (aC EB 0,wo (.aL 1 fs false) q ((i+1:Nat):Int) t (gN kd nd n a x tx (.d kp)),_,_)) (by refine ⟨?_,?_,?_,?_,trivial⟩<;>(first | rfl | exact c1 | exact c2 | exact c3 | exact c4 | exact c5)) (by refine ⟨?_,?_,?_,?_,?_,trivial⟩<;>(first | exact ah rfl | exact vf | exact vs | exact .of_eq (by rw [hd]) | exact .of_eq (by rw [hx,hd]) | exact .of_eq (by rw [ht]) | exact .of_eq (by rw [ht3]) | exact .of_eq (by rw [hx]) | exact ah (decide_eq_true (by omega)) | exact ah (decide_eq_false (by omega)))) ?_
 exact nx
set_option maxHeartbeats 400000 in
theorem Px (u:W) (fs:List DV) (i:Nat) (s:W) (kd nd n a x:Int) (tx:W) (ks:List DV) (fl:Bool) (hi:i≤1000) (hf:fs[i]? = some (.int .i64 5)) (hsl:s.length≤3000000) (hk:dU (.aL 1 ks fl)=true) (h0:0 < ks.length) (nx:lK u fs (i+1) (s++32::jo (qb (.aL 1 ks fl))) kd nd n a x tx (.aL 1 ks fl)):lK u fs i s kd nd n a x tx (.aL 1 ks fl):=by
 have ok:=aS jF;have hl:=eP hf;have vf:=eH hf;have vs:=bY (i:=i) (by omega);have c1:decide ((0:Int)≤(Nat.cast (R:=Int) i)∧(Nat.cast (R:=Int) i) < (Nat.cast (R:=Int) fs.length))=true:=decide_eq_true (by omega);obtain ⟨q,hq⟩:∃q:Int,(fs.length:Int)=q:=⟨_,rfl⟩;obtain ⟨d,hd⟩:∃d:W,jo (qb (.aL 1 ks fl))=d:=⟨_,rfl⟩;obtain ⟨t,ht⟩:∃t:W,s++([(32:UInt8)]++d)=t:=⟨_,rfl⟩;have ht2:s++32::jo (qb (.aL 1 ks fl))=t:=by rw [hd];exact ht
 have hkl:ks.length≤1000000:=by
  have hk2:(ks.all Cv&&decide (ks.length≤1000000))=true:=hk;rw [Bool.and_eq_true] at hk2;exact of_decide_eq_true hk2.2
 have hdl:d.length≤1100000:=by rw [←hd];show ((ks.map Mr).map _).length≤1100000;rw [List.length_map,List.length_map];omega
 have c2:=hk;have c4:decide ([(32:UInt8)].length+d.length≤2 ^ 62)=true:=decide_eq_true (by simp only [List.length_cons,List.length_nil];omega);have c5:decide (s.length+([(32:UInt8)]++d).length≤2 ^ 62)=true:=decide_eq_true (by simp only [List.length_append,List.length_cons,List.length_nil];omega);rw [lK,ht2,hq] at nx;rw [lK,hq];refine WK.dZ ok 1000 0 [(16,ak true),(17,RV.bf (aI (5)) 0),(75,ak true),(79,bH d),(81,bH t),(82,aP ((i+1:Nat):Int))] [] [1,3,13,14,15] [decide (0≤(i:Int)∧(i:Int) < (fs.length:Int)),Go.Proofs.YtjoefbioobdinaaGreatDoor.dU (DV.aL 1 ks fl),decide (([32]:List UInt8).length+List.length d≤2 ^ 62),decide (List.length s+(([32]:List UInt8)++d).length≤2 ^ 62)] [(ak (decide ((i:Int) < q)),ak true),(RV.bf (fs.getD (i:Int).toNat DV.aD) 0,RV.bf (aI (5)) 0),(ak (decide (0 < (ks.length:Int))),ak true),(bH (Go.Proofs.YtjoefbioobdinaaGreatDoor.jo (Go.Proofs.YtjoefbioobdinaaGreatDoor.qb (DV.aL (1) ks fl))),bH d),(bH (s++([(32:UInt8)]++d)),bH t),(aP (IntKind.i64.wrap ((i:Int)+1)),aP ((i+1:Nat):Int))] rfl (by kernel_rfl:bg (bZ tl1) 1000 0 _ _ _ _ (wo (.aL 1 fs false) q (i:Int) s (gN kd nd n a x tx (.d (.aL 1 ks fl))))=some (aC EB 0,wo (.aL 1 fs false) q ((i+1:Nat):Int) t (gN kd nd n a x tx (.d (.aL 1 ks fl))),_,_)) (by refine ⟨?_,?_,?_,?_,trivial⟩<;>(first | rfl | exact c1 | exact c2 | exact c3 | exact c4 | exact c5)) (by refine ⟨?_,?_,?_,?_,?_,?_,trivial⟩<;>(first | exact ah rfl | exact vf | exact vs | exact .of_eq (by rw [hd]) | exact .of_eq (by rw [hx,hd]) | exact .of_eq (by rw [ht]) | exact .of_eq (by rw [ht3]) | exact .of_eq (by rw [hx]) | exact ah (decide_eq_true (by omega)) | exact ah (decide_eq_false (by omega)))) ?_
 exact nx
set_option maxHeartbeats 400000 in
theorem MF (u:W) (fs:List DV) (i:Nat) (s:W) (kd nd n a x:Int) (tx:W) (ks:List DV) (fl:Bool) (hi:i≤1000) (hf:fs[i]? = some (.int .i64 5)) (h0:ks.length=0) (nx:lK u fs (i+1) s kd nd n a x tx (.aL 1 ks fl)):lK u fs i s kd nd n a x tx (.aL 1 ks fl):=by
 have ok:=aS jF;have hl:=eP hf;have vf:=eH hf;have vs:=bY (i:=i) (by omega);have c1:decide ((0:Int)≤(Nat.cast (R:=Int) i)∧(Nat.cast (R:=Int) i) < (Nat.cast (R:=Int) fs.length))=true:=decide_eq_true (by omega);obtain ⟨q,hq⟩:∃q:Int,(fs.length:Int)=q:=⟨_,rfl⟩;rw [lK,hq] at nx;rw [lK,hq];refine WK.dZ ok 1000 0 [(16,ak true),(17,RV.bf (aI (5)) 0),(75,ak false),(82,aP ((i+1:Nat):Int))] [] [1,3,13,14,15] [decide (0≤(i:Int)∧(i:Int) < (fs.length:Int))] [(ak (decide ((i:Int) < q)),ak true),(RV.bf (fs.getD (i:Int).toNat DV.aD) 0,RV.bf (aI (5)) 0),(ak (decide (0 < (ks.length:Int))),ak false),(aP (IntKind.i64.wrap ((i:Int)+1)),aP ((i+1:Nat):Int))] rfl (by kernel_rfl:bg (bZ tl1) 1000 0 _ _ _ _ (wo (.aL 1 fs false) q (i:Int) s (gN kd nd n a x tx (.d (.aL 1 ks fl))))=some (aC EB 0,wo (.aL 1 fs false) q ((i+1:Nat):Int) s (gN kd nd n a x tx (.d (.aL 1 ks fl))),_,_)) ⟨(by first | rfl | exact c1 | exact c2 | exact c3 | exact c4 | exact c5),trivial⟩ (by refine ⟨?_,?_,?_,?_,trivial⟩<;>(first | exact ah rfl | exact vf | exact vs | exact .of_eq (by rw [hd]) | exact .of_eq (by rw [hx,hd]) | exact .of_eq (by rw [ht]) | exact .of_eq (by rw [ht3]) | exact .of_eq (by rw [hx]) | exact ah (decide_eq_true (by omega)) | exact ah (decide_eq_false (by omega)))) ?_
 exact nx
set_option maxHeartbeats 400000 in
theorem MG (u:W) (fs:List DV) (i:Nat) (s:W) (kd nd n a x:Int) (tx:W) (hi:i≤1000) (hf:fs[i]? = some (.int .i64 5)) (nx:lK u fs (i+1) s kd nd n a x tx (.aL 0 [] true)):lK u fs i s kd nd n a x tx (.aL 0 [] true):=by
 have ok:=aS jF;have hl:=eP hf;have vf:=eH hf;have vs:=bY (i:=i) (by omega);have c1:decide ((0:Int)≤(Nat.cast (R:=Int) i)∧(Nat.cast (R:=Int) i) < (Nat.cast (R:=Int) fs.length))=true:=decide_eq_true (by omega);obtain ⟨q,hq⟩:∃q:Int,(fs.length:Int)=q:=⟨_,rfl⟩;rw [lK,hq] at nx;rw [lK,hq];refine WK.dZ ok 1000 0 [(16,ak true),(17,RV.bf (aI (5)) 0),(75,ak false),(82,aP ((i+1:Nat):Int))] [] [1,3,13,14,15] [decide (0≤(i:Int)∧(i:Int) < (fs.length:Int))] [(ak (decide ((i:Int) < q)),ak true),(RV.bf (fs.getD (i:Int).toNat DV.aD) 0,RV.bf (aI (5)) 0),(ak false,ak false),(aP (IntKind.i64.wrap ((i:Int)+1)),aP ((i+1:Nat):Int))] rfl (by kernel_rfl:bg (bZ tl1) 1000 0 _ _ _ _ (wo (.aL 1 fs false) q (i:Int) s (gN kd nd n a x tx (.d (.aL 0 [] true))))=some (aC EB 0,wo (.aL 1 fs false) q ((i+1:Nat):Int) s (gN kd nd n a x tx (.d (.aL 0 [] true))),_,_)) ⟨(by first | rfl | exact c1 | exact c2 | exact c3 | exact c4 | exact c5),trivial⟩ (by refine ⟨?_,?_,?_,?_,trivial⟩<;>(first | exact ah rfl | exact vf | exact vs | exact .of_eq (by rw [hd]) | exact .of_eq (by rw [hx,hd]) | exact .of_eq (by rw [ht]) | exact .of_eq (by rw [ht3]) | exact .of_eq (by rw [hx]) | exact ah (decide_eq_true (by omega)) | exact ah (decide_eq_false (by omega)))) ?_
 exact nx
theorem MH (fd:DV) (q:Int) (i:Nat) (s:W) (kd nd n a x:Int) (tx:W) (kp:DV) (hi:¬(i:Int) < q):WK Tryz.prog 0 (aC EB 0) (wo fd q (i:Int) s (gN kd nd n a x tx (.d kp))).den (MC s):=by
 have ok:=aS jF;exact WK.fin ok 1000 0 [(16,ak false)] [] [(ak (decide ((i:Int) < q)),ak false)] rfl (by kernel_rfl:aA (bZ tl1) true _ 1000 0 _ _ (wo fd q (i:Int) s (gN kd nd n a x tx (.d kp)))=some (bH s,[],_,_)) trivial ⟨(by exact ah (decide_eq_false hi)),trivial⟩ ⟨rfl,rfl⟩
theorem jG (fs:List DV) (i:Nat) (s:W) (kd nd n a x:Int) (tx:W) (kp:DV) (hi:i=fs.length):lK s fs i s kd nd n a x tx kp:=MH _ _ i s kd nd n a x tx kp (by omega)
def WM (kp:DV) (l:List Bool):Prop:=dU kp=true∧qb kp=l
theorem Py (u:W) (fs:List DV) (i:Nat) (s:W) (kd nd n a x:Int) (tx:W) (kp:DV) (l:List Bool) (hk:WM kp l) (hi:i≤1000) (hf:fs[i]? = some (.int .i64 5)) (hsl:s.length≤3000000) (nx:lK u fs (i+1) (s++(if l=[] then [] else 32::jo l)) kd nd n a x tx kp):lK u fs i s kd nd n a x tx kp:=by
 obtain ⟨h1,h2⟩:=hk;have h3:=h1;unfold dU at h3;split at h3
 ·rename_i ks fl;by_cases h0:ks.length=0
  ·have hl:l=[]:=by rw [←h2,List.length_eq_zero_iff.1 h0];rfl
   rw [if_pos hl,List.append_nil] at nx;exact MF u fs i s kd nd n a x tx ks fl hi hf h0 nx
  ·have hl:¬l=[]:=by
    rw [←h2];intro h;have h:ks.map Mr=[]:=h;rw [List.map_eq_nil_iff] at h;rw [h] at h0;exact h0 rfl
   rw [if_neg hl,←h2] at nx;exact Px u fs i s kd nd n a x tx ks fl hi hf hsl h1 (by omega) nx
 ·have hl:l=[]:=by rw [←h2];rfl
  rw [if_pos hl,List.append_nil] at nx;exact MG u fs i s kd nd n a x tx hi hf nx
 ·cases h3
def Ie:DV→aR.Act
 | .agg [.int .i64 kd,.int .i64 nd,.int .i64 n,.int .i64 a,.int .u8 x,.str tx,kp]=>{ kind:=kd,node:=nd,n:=n,at_:=a,x:=x,text:=tx,keep:=qb kp }
 | _=>{}
def yC (a:aR.Act):Bool:=decide (tO a.node)&&(decide (tO a.n)&&(decide (tO a.at_)&&(decide (0≤a.x∧a.x≤255)&&(decide (a.text.length≤500000)&&decide (a.keep.length≤500000)))))
def Ig (d:DV):W:=aR.line (Ie d)
def rJ (d:DV):Bool:=yC (Ie d)
def MI:DV→Option (DV×List Bool):=fun d=>some (.str (Ig d),[isA d,dU (Ji d),rJ d])
noncomputable def Yr:List (Nat×kg):=[(27,e1 MI),(7,Ce Yo),(28,e2 Vv)]
theorem Ei {a:aR.Act} (h:yC a=true):tO a.node∧tO a.n∧tO a.at_∧(0≤a.x∧a.x≤255)∧a.text.length≤500000∧a.keep.length≤500000:=by
 unfold yC at h;simp only [Bool.and_eq_true,decide_eq_true_eq] at h;exact h
abbrev jq (kd nd n a x:Int) (tx:W) (kp:DV):aR.Act:={ kind:=kd,node:=nd,n:=n,at_:=a,x:=x,text:=tx,keep:=qb kp }
theorem yD (kd nd n a x:Int) (tx:W) (kp:DV):Ie (dn kd nd n a x tx kp)=jq kd nd n a x tx kp:=rfl
set_option maxHeartbeats 400000 in
theorem mW (u:W) (fs:List DV) (kd nd n a x:Int) (tx:W) (kp:DV) (s:W) (hs:Jd kd=s) (hf:CG kd.toNat = .aL 1 fs false) (hk:lK u fs 0 s kd nd n a x tx kp):Go.Am.C Tryz.prog 27 [.d (dn kd nd n a x tx kp)] [] (fun r o=>r = .d (.str u)∧o=[]):=by
 have ok:=aS jF;refine aY (fn:=Tryz.f27) (body:=EB) true (by kernel_rfl) (by kernel_rfl) (by kernel_rfl) ?_;refine WK.dZ ok 1000 0 [(11,bH s),(12,RV.d (DV.aL 1 fs false))] [] [1,3,13,14,15] [] [(bH (Go.Proofs.YtjoefbioobdinaaGreatDoor.Jd kd),bH s),(RV.d (Go.Proofs.YtjoefbioobdinaaGreatDoor.CG kd.toNat),RV.d (DV.aL 1 fs false))] rfl (by kernel_rfl:bg (bZ tl1) 1000 0 _ _ _ _ (dY 84 [.d (dn kd nd n a x tx kp)] [])=some (aC EB 0,wo (.aL 1 fs false) (fs.length:Int) (0:Nat) s (gN kd nd n a x tx (.d kp)),_,_)) trivial (by refine ⟨?_,?_,trivial⟩<;>(first | exact .of_eq (by rw [hs]) | exact .of_eq (by rw [hf]))) ?_
 exact hk
set_option maxHeartbeats 400000 in
theorem Cx (kd nd n a x:Int) (tx:W) (kp:DV) (s:W) (hs:Jd kd=s) (hf:CG kd.toNat = .aL 0 [] true):Go.Am.C Tryz.prog 27 [.d (dn kd nd n a x tx kp)] [] (fun r o=>r = .d (.str s)∧o=[]):=by
 have ok:=aS jF;refine aY (fn:=Tryz.f27) (body:=EB) true (by kernel_rfl) (by kernel_rfl) (by kernel_rfl) ?_;have hk:=MH (.aL 0 [] true) 0 0 s kd nd n a x tx kp (by simp);refine WK.dZ ok 1000 0 [(11,bH s),(12,RV.d (DV.aL 0 [] true))] [] [1,3,13,14,15] [] [(bH (Go.Proofs.YtjoefbioobdinaaGreatDoor.Jd kd),bH s),(RV.d (Go.Proofs.YtjoefbioobdinaaGreatDoor.CG kd.toNat),RV.d (DV.aL 0 [] true))] rfl (by kernel_rfl:bg (bZ tl1) 1000 0 _ _ _ _ (dY 84 [.d (dn kd nd n a x tx kp)] [])=some (aC EB 0,wo (.aL 0 [] true) 0 (0:Nat) s (gN kd nd n a x tx (.d kp)),_,_)) trivial (by refine ⟨?_,?_,trivial⟩<;>(first | exact .of_eq (by rw [hs]) | exact .of_eq (by rw [hf]))) ?_
 exact hk
theorem F6:∀k:Nat,k < 15→(kw k).length≤20:=by decide
theorem WO (k:Nat) (hk:k < 15) {d:W} (h:d.length≤21):(kw k++32::d).length≤3000000:=by
 have:=F6 k hk
 simp only [List.length_append,List.length_cons];omega
theorem Zu (k:Nat) (hk:k < 15) {d e:W} (h:d.length≤21) (h2:e.length≤21):((kw k++32::d)++32::e).length≤3000000:=by
 have:=F6 k hk
 simp only [List.length_append,List.length_cons];omega
theorem Sq (kd nd n a x:Int) (tx:W) (kp:DV) (hk:dU kp=true) (hf:yC (jq kd nd n a x tx kp)=true):Go.Am.C Tryz.prog 27 [.d (dn kd nd n a x tx kp)] [] (fun r o=>r = .d (.str (aR.line (jq kd nd n a x tx kp)))∧o=[]):=by
 obtain ⟨f1,f2,f3,f4,f5,f6⟩:=Ei hf;simp only at f1 f2 f3 f4 f5 f6;have hkp:WM kp (qb kp):=⟨hk,rfl⟩;have l1:=ig f1;have l2:=ig f2;have l3:=ig f3;by_cases h:1≤kd∧kd≤14
 ·obtain ⟨k,rfl⟩:=Int.eq_ofNat_of_zero_le (show 0≤kd by omega);have h:1≤k∧k≤14:=by omega
  match k,h with
  | 1,_=>
    exact mW _ [.int .i64 6] 1 nd n a x tx kp (kw 1) rfl rfl (Pt _ _ 0 (kw 1) _ _ _ _ _ _ _ (by omega) rfl (by decide) (by omega) (jG _ _ _ _ _ _ _ _ _ _ rfl))
  | 2,_=>
    exact mW _ [.int .i64 0] 2 nd n a x tx kp (kw 2) rfl rfl (qc _ _ 0 (kw 2) _ _ _ _ _ _ _ (by omega) rfl (by decide) f1 (jG _ _ _ _ _ _ _ _ _ _ rfl))
  | 10,_=>
    exact mW _ [.int .i64 0] 10 nd n a x tx kp (kw 10) rfl rfl (qc _ _ 0 (kw 10) _ _ _ _ _ _ _ (by omega) rfl (by decide) f1 (jG _ _ _ _ _ _ _ _ _ _ rfl))
  | 3,_=>
    exact mW _ [.int .i64 1] 3 nd n a x tx kp (kw 3) rfl rfl (nN _ _ 0 (kw 3) _ _ _ _ _ _ _ (by omega) rfl (by decide) f2 (jG _ _ _ _ _ _ _ _ _ _ rfl))
  | 4,_=>
    exact mW _ [.int .i64 1] 4 nd n a x tx kp (kw 4) rfl rfl (nN _ _ 0 (kw 4) _ _ _ _ _ _ _ (by omega) rfl (by decide) f2 (jG _ _ _ _ _ _ _ _ _ _ rfl))
  | 5,_=>
    exact mW _ [.int .i64 1] 5 nd n a x tx kp (kw 5) rfl rfl (nN _ _ 0 (kw 5) _ _ _ _ _ _ _ (by omega) rfl (by decide) f2 (jG _ _ _ _ _ _ _ _ _ _ rfl))
  | 12,_=>
    exact mW _ [.int .i64 1] 12 nd n a x tx kp (kw 12) rfl rfl (nN _ _ 0 (kw 12) _ _ _ _ _ _ _ (by omega) rfl (by decide) f2 (jG _ _ _ _ _ _ _ _ _ _ rfl))
  | 14,_=>
    exact mW _ [.int .i64 1] 14 nd n a x tx kp (kw 14) rfl rfl (nN _ _ 0 (kw 14) _ _ _ _ _ _ _ (by omega) rfl (by decide) f2 (jG _ _ _ _ _ _ _ _ _ _ rfl))
  | 6,_=>
    have e:aR.line (jq (6:Nat) nd n a x tx kp)=((kw 6++32::Lib.itoa n)++32::Lib.itoa a)++32::Lib.itoa x:=by
     show kw 6++32::(Lib.itoa n++32::(Lib.itoa a++32::Lib.itoa x))=_
     simp only [List.append_assoc,List.cons_append]
    rw [e];exact mW _ [.int .i64 1,.int .i64 2,.int .i64 3] 6 nd n a x tx kp (kw 6) rfl rfl (nN _ _ 0 (kw 6) _ _ _ _ _ _ _ (by omega) rfl (by decide) f2 (ME _ _ 1 (kw 6++32::Lib.itoa n) _ _ _ _ _ _ _ (by omega) rfl (WO 6 (by decide) l2) f3 (Pq _ _ 2 ((kw 6++32::Lib.itoa n)++32::Lib.itoa a) _ _ _ _ _ _ _ (by omega) rfl (Zu 6 (by decide) l2 l3) f4 (jG _ _ _ _ _ _ _ _ _ _ rfl))))
  | 8,_=>
    have e:aR.line (jq (8:Nat) nd n a x tx kp)=(kw 8++32::Lib.itoa nd)++32::Lib.itoa n:=by
     show kw 8++32::(Lib.itoa nd++32::Lib.itoa n)=_
     simp only [List.append_assoc,List.cons_append]
    rw [e];exact mW _ [.int .i64 0,.int .i64 1] 8 nd n a x tx kp (kw 8) rfl rfl (qc _ _ 0 (kw 8) _ _ _ _ _ _ _ (by omega) rfl (by decide) f1 (nN _ _ 1 (kw 8++32::Lib.itoa nd) _ _ _ _ _ _ _ (by omega) rfl (WO 8 (by decide) l1) f2 (jG _ _ _ _ _ _ _ _ _ _ rfl)))
  | 7,_=>
    have e:aR.line (jq (7:Nat) nd n a x tx kp)=((kw 7++32::Lib.itoa nd)++32::Lib.itoa n)++32::(if x % 2=1 then ([105,111]:W) else [115,112,97,99,101]):=by
     show kw 7++32::(Lib.itoa nd++32::(Lib.itoa n++32::(if x % 2=1 then [105,111] else [115,112,97,99,101])))=_
     simp only [List.append_assoc,List.cons_append]
    rw [e];by_cases hx:x % 2=1
    ·rw [if_pos hx];exact mW _ [.int .i64 0,.int .i64 1,.int .i64 4] 7 nd n a x tx kp (kw 7) rfl rfl (qc _ _ 0 (kw 7) _ _ _ _ _ _ _ (by omega) rfl (by decide) f1 (nN _ _ 1 (kw 7++32::Lib.itoa nd) _ _ _ _ _ _ _ (by omega) rfl (WO 7 (by decide) l1) f2 (Pw _ _ 2 ((kw 7++32::Lib.itoa nd)++32::Lib.itoa n) _ _ _ _ _ _ _ (by omega) rfl (Zu 7 (by decide) l1 l2) f4 hx (jG _ _ _ _ _ _ _ _ _ _ rfl))))
    ·rw [if_neg hx];exact mW _ [.int .i64 0,.int .i64 1,.int .i64 4] 7 nd n a x tx kp (kw 7) rfl rfl (qc _ _ 0 (kw 7) _ _ _ _ _ _ _ (by omega) rfl (by decide) f1 (nN _ _ 1 (kw 7++32::Lib.itoa nd) _ _ _ _ _ _ _ (by omega) rfl (WO 7 (by decide) l1) f2 (Pv _ _ 2 ((kw 7++32::Lib.itoa nd)++32::Lib.itoa n) _ _ _ _ _ _ _ (by omega) rfl (Zu 7 (by decide) l1 l2) f4 (by omega) (jG _ _ _ _ _ _ _ _ _ _ rfl))))
  | 9,_=>
    have e:aR.line (jq (9:Nat) nd n a x tx kp)=(kw 9++32::Lib.itoa nd)++(if qb kp=[] then [] else 32::jo (qb kp)):=by
     show kw 9++32::(Lib.itoa nd++(if qb kp=[] then [] else 32::jo (qb kp)))=_
     simp only [List.append_assoc,List.cons_append]
    rw [e];exact mW _ [.int .i64 0,.int .i64 5] 9 nd n a x tx kp (kw 9) rfl rfl (qc _ _ 0 (kw 9) _ _ _ _ _ _ _ (by omega) rfl (by decide) f1 (Py _ _ 1 (kw 9++32::Lib.itoa nd) _ _ _ _ _ _ _ _ hkp (by omega) rfl (WO 9 (by decide) l1) (jG _ _ _ _ _ _ _ _ _ _ rfl)))
  | 11,_=>
    exact Cx 11 nd n a x tx kp (kw 11) rfl rfl
  | 13,_=>
    exact Cx 13 nd n a x tx kp (kw 13) rfl rfl
 ·have h2:¬(1≤kd.toNat∧kd.toNat≤14):=by omega
  obtain ⟨e1,e2⟩:=Mx h2;have e3:CG kd.toNat = .aL 0 [] true:=by unfold CG;rw [e2];rfl
  have e5:aR.line (jq kd nd n a x tx kp)=[]:=by
   unfold aR.line
   split<;>first | rfl | (rename_i hh;simp only at hh;omega)
  rw [e5];exact Cx kd nd n a x tx kp [] e1 e3
theorem MJ:bU Tryz.prog 27 (e1 MI):=by
 refine xP fun d y c hg hc=>?_;unfold MI at hg;simp only [Option.some.injEq,Prod.mk.injEq] at hg;obtain ⟨rfl,rfl⟩:=hg;obtain ⟨kd,nd,n,a,z,tx,kp,rfl⟩:=kU (hc (isA d) (by simp));exact Sq kd nd n a z tx kp (hc (dU (Ji (dn kd nd n a z tx kp))) (by simp)) (hc (rJ (dn kd nd n a z tx kp)) (by simp))
theorem Sr:dQ Tryz.prog Yr:=.cons MJ (.cons Mh (.cons Sm .nil))
theorem uQ (l:List Bool):qb (keepD l)=l:=by
 unfold keepD;split
 ·rename_i h;rw [h];rfl
 ·show (l.map DV.bool).map Mr=l
  rw [List.map_map];exact List.map_id l
theorem rM {l:List Bool} (h:l.length≤1000000):dU (keepD l)=true:=by
 unfold keepD;split
 ·rfl
 ·show ((l.map DV.bool).all Cv&&decide ((l.map DV.bool).length≤1000000))=true
  rw [List.length_map,decide_eq_true h,Bool.and_true,List.all_eq_true];intro x hx;obtain ⟨b,_,rfl⟩:=List.mem_map.1 hx;rfl
theorem qd (a:aR.Act) (m:Bool) (e:Int):(aR.stop a m e).1.keep.length≤a.keep.length:=by
 unfold aR.stop;by_cases h:(if m=true then jX e 6 else e)=0
 ·rw [if_pos h];exact Nat.le_refl _
 ·rw [if_neg h];exact Nat.zero_le _
theorem MK (k:Nat) (m:Bool) (r:W):(Ad k m r).1.keep.length≤r.length+1:=by
 unfold Ad;simp only;split
 all_goals first
  | exact Nat.le_trans (qd _ _ _) (Nat.zero_le _)
  | (split<;>exact Nat.le_trans (qd _ _ _) (Nat.zero_le _))
  | skip
 split
 ·refine Nat.le_trans (qd _ _ _) ?_;unfold gZ;rw [List.length_map];have h1:=wJ (eu m r) (dM m r);have h2:=lJ m r;omega
 ·exact Nat.le_trans (qd _ _ _) (Nat.zero_le _)
theorem F7 (s:W):(aG s).1.keep.length≤s.length+1:=by
 unfold aG;have h:=(sZ s).2;generalize kindOf (aR.cut s).1=k
 match k with
 | 0=>exact Nat.zero_le _
 | 1=>
   show (if (aR.cut s).2.2=false∨(10:UInt8)∈(aR.cut s).2.1 then (({}:aR.Act),(6:Int)) else ({ kind:=1,text:=(aR.cut s).2.1 },0)).1.keep.length≤_
   split<;>exact Nat.zero_le _
 | k+2=>
   have:=MK (k+2) (aR.cut s).2.2 (aR.cut s).2.1
   show (Ad (k+2) (aR.cut s).2.2 (aR.cut s).2.1).1.keep.length≤_
   omega
theorem yE (kd nd n a x gG gI n2 a2 x2:Int) (tx iF:W) (kp fI:DV):tC (dn kd nd n a x tx kp) (dn gG gI n2 a2 x2 iF fI)=true↔aR.same (jq kd nd n a x tx kp) (jq gG gI n2 a2 x2 iF fI):=by
 show (kd==gG&&(nd==gI&&(n==n2&&(a==a2&&(x==x2&&(tx==iF&&jo (qb kp)==jo (qb fI)))))))=true↔_
 unfold aR.same;simp only [Bool.and_eq_true,beq_iff_eq];exact Iff.rfl
theorem Ej {a:aR.Act} (h:yC a=true):(aR.line a).length≤999999:=by
 obtain ⟨f1,f2,f3,f4,f5,f6⟩:=Ei h;have l1:=ig f1;have l2:=ig f2;have l3:=ig f3;have l4:=ig (n:=a.x) ⟨by omega,by omega⟩;have kl:∀k:Nat,k < 15→(kw k).length≤20:=F6;unfold aR.line;split
 ·have:=kl 1 (by decide)
  simp only [List.length_append,List.length_cons];omega
 ·have:=kl 2 (by decide)
  simp only [List.length_append,List.length_cons];omega
 ·have:=kl 3 (by decide)
  simp only [List.length_append,List.length_cons];omega
 ·have:=kl 4 (by decide)
  simp only [List.length_append,List.length_cons];omega
 ·have:=kl 5 (by decide)
  simp only [List.length_append,List.length_cons];omega
 ·have:=kl 6 (by decide)
  simp only [List.length_append,List.length_cons];omega
 ·have:=kl 7 (by decide)
  simp only [List.length_append,List.length_cons];split<;>simp only [List.length_cons,List.length_nil]<;>omega
 ·have:=kl 8 (by decide)
  simp only [List.length_append,List.length_cons];omega
 ·have:=kl 9 (by decide)
  simp only [List.length_append,List.length_cons];split
  ·simp only [List.length_nil];omega
  ·simp only [List.length_cons,nT,List.length_map];omega
 ·have:=kl 10 (by decide)
  simp only [List.length_append,List.length_cons];omega
 ·have:=kl 11 (by decide)
  omega
 ·have:=kl 12 (by decide)
  simp only [List.length_append,List.length_cons];omega
 ·have:=kl 13 (by decide)
  omega
 ·have:=kl 14 (by decide)
  simp only [List.length_append,List.length_cons];omega
 ·simp
set_option maxHeartbeats 400000 in
theorem Sv (kd nd n a x:Int) (tx:W) (kp:DV) (hk:dU kp=true) (hf:yC (jq kd nd n a x tx kp)=true):Go.Am.C Tryz.prog 11 [.d (dn kd nd n a x tx kp)] [] (fun r o=>r = .bI [.d (.str (kT (jq kd nd n a x tx kp)).1),.d (.int .i64 (kT (jq kd nd n a x tx kp)).2)]∧o=[]):=by
 have ok:=aS Sr;refine aY (fn:=Tryz.f11) (body:=LnC) true (by kernel_rfl) (by kernel_rfl) (by kernel_rfl) ?_;have hlen:=Ej hf;obtain ⟨s,hs⟩:∃s,aR.line (jq kd nd n a x tx kp)=s:=⟨_,rfl⟩;rw [hs] at hlen;have hkl:=F7 s;have hP:kT (jq kd nd n a x tx kp)=if (aG s).2=0∧aR.same (jq kd nd n a x tx kp) (aG s).1 then (s,0) else ([],2):=by unfold kT;rw [hs]
 have c1:decide (s.length≤999999)=true:=decide_eq_true hlen;obtain ⟨b,e,hbe⟩:∃b e,aG s=(b,e):=⟨_,_,rfl⟩;rw [hbe] at hP hkl;have he:(aG s).2=e:=by rw [hbe]
 have hb:(aG s).1=b:=by rw [hbe]
 obtain ⟨gG,gI,n2,a2,x2,iF,kl⟩:=b;obtain ⟨fI,F8⟩:∃fI,keepD kl=fI:=⟨_,rfl⟩;have hact:Ee (aG s).1=dn gG gI n2 a2 x2 iF fI:=by rw [hb];unfold Ee;simp only [F8]
 have c2:dU fI=true:=by rw [←F8];exact rM (by simp only at hkl;omega)
 have hL:qb fI=kl:=by rw [←F8];exact uQ kl
 have hsm:=yE kd nd n a x gG gI n2 a2 x2 tx iF kp fI;have e2:jq gG gI n2 a2 x2 iF fI=⟨gG,gI,n2,a2,x2,iF,kl⟩:=by rw [jq,hL]
 rw [e2] at hsm;simp only at hP;by_cases h0:e=0
 ·have ge:(e != 0)=false:=by rw [h0];rfl
  cases gs:tC (dn kd nd n a x tx kp) (dn gG gI n2 a2 x2 iF fI) with
  | true=>
    have hq:kT (jq kd nd n a x tx kp)=(s,0):=by rw [hP,if_pos ⟨h0,hsm.1 gs⟩]
    rw [hq];exact WK.fin ok 1000 0 [(8,bH s),(12,RV.d (DV.agg [aI gG,aI gI,aI n2,aI a2,aU x2,DV.str iF,fI])),(13,aP e),(15,ak false),(19,ak true)] [true,Go.Proofs.YtjoefbioobdinaaGreatDoor.dU kp,Go.Proofs.YtjoefbioobdinaaGreatDoor.rJ (DV.agg [aI kd,aI nd,aI n,aI a,aU x,DV.str tx,kp]),decide (List.length s≤999999),true,true,Go.Proofs.YtjoefbioobdinaaGreatDoor.dU kp,Go.Proofs.YtjoefbioobdinaaGreatDoor.dU fI] [(bH (Go.Proofs.YtjoefbioobdinaaGreatDoor.Ig (DV.agg [aI kd,aI nd,aI n,aI a,aU x,DV.str tx,kp])),bH s),(RV.d (DV.agg [aI (Go.aR.aG s).fst.1,aI (Go.aR.aG s).fst.2,aI (Go.aR.aG s).fst.3,aI (Go.aR.aG s).fst.4,aU (Go.aR.aG s).fst.5,DV.str (Go.aR.aG s).fst.6,Go.Proofs.YtjoefbioobdinaaGreatDoor.keepD (Go.aR.aG s).fst.keep]),RV.d (DV.agg [aI gG,aI gI,aI n2,aI a2,aU x2,DV.str iF,fI])),(aP (Go.aR.aG s).2,aP e),(ak (e != 0),ak false),(ak (Go.Proofs.YtjoefbioobdinaaGreatDoor.tC (DV.agg [aI kd,aI nd,aI n,aI a,aU x,DV.str tx,kp]) (DV.agg [aI gG,aI gI,aI n2,aI a2,aU x2,DV.str iF,fI])),ak true)] rfl (by kernel_rfl:aA (bZ Yr) true _ 1000 0 _ _ (dY 23 [.d (dn kd nd n a x tx kp)] [])=some (RV.bI [bH s,aP (0)],[],_,_)) (by refine ⟨?_,?_,?_,?_,?_,?_,?_,?_,trivial⟩<;>(first | rfl | exact hk | exact hf | exact c1 | exact c2)) (by refine ⟨?_,?_,?_,?_,?_,trivial⟩<;>(first | exact ah rfl | exact .of_eq (congrArg (fun w=>RV.d (.str w)) hs) | exact .of_eq (congrArg RV.d hact) | exact .of_eq (congrArg (fun z=>RV.d (.int .i64 z)) he) | exact ah ge | exact ah gs)) ⟨rfl,rfl⟩
  | false=>
    have hq:kT (jq kd nd n a x tx kp)=([],2):=by rw [hP,if_neg (fun h=>by rw [hsm.2 h.2] at gs;cases gs)]
    rw [hq];exact WK.fin ok 1000 0 [(8,bH s),(12,RV.d (DV.agg [aI gG,aI gI,aI n2,aI a2,aU x2,DV.str iF,fI])),(13,aP e),(15,ak false),(19,ak false)] [true,Go.Proofs.YtjoefbioobdinaaGreatDoor.dU kp,Go.Proofs.YtjoefbioobdinaaGreatDoor.rJ (DV.agg [aI kd,aI nd,aI n,aI a,aU x,DV.str tx,kp]),decide (List.length s≤999999),true,true,Go.Proofs.YtjoefbioobdinaaGreatDoor.dU kp,Go.Proofs.YtjoefbioobdinaaGreatDoor.dU fI] [(bH (Go.Proofs.YtjoefbioobdinaaGreatDoor.Ig (DV.agg [aI kd,aI nd,aI n,aI a,aU x,DV.str tx,kp])),bH s),(RV.d (DV.agg [aI (Go.aR.aG s).fst.1,aI (Go.aR.aG s).fst.2,aI (Go.aR.aG s).fst.3,aI (Go.aR.aG s).fst.4,aU (Go.aR.aG s).fst.5,DV.str (Go.aR.aG s).fst.6,Go.Proofs.YtjoefbioobdinaaGreatDoor.keepD (Go.aR.aG s).fst.keep]),RV.d (DV.agg [aI gG,aI gI,aI n2,aI a2,aU x2,DV.str iF,fI])),(aP (Go.aR.aG s).2,aP e),(ak (e != 0),ak false),(ak (Go.Proofs.YtjoefbioobdinaaGreatDoor.tC (DV.agg [aI kd,aI nd,aI n,aI a,aU x,DV.str tx,kp]) (DV.agg [aI gG,aI gI,aI n2,aI a2,aU x2,DV.str iF,fI])),ak false)] rfl (by kernel_rfl:aA (bZ Yr) true _ 1000 0 _ _ (dY 23 [.d (dn kd nd n a x tx kp)] [])=some (RV.bI [bH [],aP (2)],[],_,_)) (by refine ⟨?_,?_,?_,?_,?_,?_,?_,?_,trivial⟩<;>(first | rfl | exact hk | exact hf | exact c1 | exact c2)) (by refine ⟨?_,?_,?_,?_,?_,trivial⟩<;>(first | exact ah rfl | exact .of_eq (congrArg (fun w=>RV.d (.str w)) hs) | exact .of_eq (congrArg RV.d hact) | exact .of_eq (congrArg (fun z=>RV.d (.int .i64 z)) he) | exact ah ge | exact ah gs)) ⟨rfl,rfl⟩
 ·have ge:(e != 0)=true:=bne_iff_ne.2 h0;have hq:kT (jq kd nd n a x tx kp)=([],2):=by rw [hP,if_neg (fun h=>h0 h.1)]
  rw [hq];exact WK.fin ok 1000 0 [(8,bH s),(12,RV.d (DV.agg [aI gG,aI gI,aI n2,aI a2,aU x2,DV.str iF,fI])),(13,aP e),(15,ak true)] [true,Go.Proofs.YtjoefbioobdinaaGreatDoor.dU kp,Go.Proofs.YtjoefbioobdinaaGreatDoor.rJ (DV.agg [aI kd,aI nd,aI n,aI a,aU x,DV.str tx,kp]),decide (List.length s≤999999)] [(bH (Go.Proofs.YtjoefbioobdinaaGreatDoor.Ig (DV.agg [aI kd,aI nd,aI n,aI a,aU x,DV.str tx,kp])),bH s),(RV.d (DV.agg [aI (Go.aR.aG s).fst.1,aI (Go.aR.aG s).fst.2,aI (Go.aR.aG s).fst.3,aI (Go.aR.aG s).fst.4,aU (Go.aR.aG s).fst.5,DV.str (Go.aR.aG s).fst.6,Go.Proofs.YtjoefbioobdinaaGreatDoor.keepD (Go.aR.aG s).fst.keep]),RV.d (DV.agg [aI gG,aI gI,aI n2,aI a2,aU x2,DV.str iF,fI])),(aP (Go.aR.aG s).2,aP e),(ak (e != 0),ak true)] rfl (by kernel_rfl:aA (bZ Yr) true _ 1000 0 _ _ (dY 23 [.d (dn kd nd n a x tx kp)] [])=some (RV.bI [bH [],aP (2)],[],_,_)) (by refine ⟨?_,?_,?_,?_,trivial⟩<;>(first | rfl | exact hk | exact hf | exact c1 | exact c2)) (by refine ⟨?_,?_,?_,?_,trivial⟩<;>(first | exact ah rfl | exact .of_eq (congrArg (fun w=>RV.d (.str w)) hs) | exact .of_eq (congrArg RV.d hact) | exact .of_eq (congrArg (fun z=>RV.d (.int .i64 z)) he) | exact ah ge | exact ah gs)) ⟨rfl,rfl⟩
def gL (d:DV):W×Int:=kT (Ie d)
def ML:DV→Option (RV×List Bool):=fun d=>some (.bI [.d (.str (gL d).1),.d (.int .i64 (gL d).2)],[isA d,dU (Ji d),rJ d])
theorem MN:bU Tryz.prog 11 (Ce ML):=by
 refine oI fun d y c hg hc=>?_;unfold ML at hg;simp only [Option.some.injEq,Prod.mk.injEq] at hg;obtain ⟨rfl,rfl⟩:=hg;obtain ⟨kd,nd,n,a,z,tx,kp,rfl⟩:=kU (hc (isA d) (by simp));exact Sv kd nd n a z tx kp (hc (dU (Ji (dn kd nd n a z tx kp))) (by simp)) (hc (rJ (dn kd nd n a z tx kp)) (by simp))
end Go.Proofs.YtjoefbioobdinaaGreatDoor
namespace Go.Am
set_option linter.unusedSectionVars false
variable {P:Program} [Gl]
section
variable [Df]
abbrev ze:=Code→Code→Option (List (Nat×VK)→VK→VK)
noncomputable def rO (hook:ze) (cf:dK) (has:Nat→Bool) (call:fq) (n fuel:Nat) (ret:VK) (c:Code):List (Nat×VK)→VK→VK:=
 Code.rec (motive:=fun _=>List (Nat×VK)→VK→VK)
  (fun _ k=>k)
  (fun _ ops draw _ k R O nx=>BX cf has call n ops draw R O nx k)
  (fun x y hx hy e k=>Option.rec (motive:=fun _=>VK) (hx e (hy e k)) (fun f=>f e k) (hook x y))
  (fun c _ _ hx hy e k R O nx=>KU (V7 c R) (hx e k R O nx) (hy e k R O nx))
  (fun id _ hb e k=>hb ((id,k)::e) k)
  (fun _ hb e _=>Qq (hb e) fuel)
  (fun _ _ _ _ _ _ _ _ _ _ _=>none)
  (fun id e _=>KT id e)
  (fun _ hb e k=>hb e k)
  (fun _ _ k=>k)
  (fun _ _ _ _ _ _=>none)
  (fun _ _=>ret)
  (fun _ _ _ _ _ _=>none) c
noncomputable def MO (hooks:Nat→ze) (fn:Nat→Option Func) (cf:dK) (has:Nat→Bool) (fuel:Nat) (call:fq):fq:=fun g args O nx vY=>
 Option.rec (motive:=fun _=>mU) none (fun f=>Option.rec (motive:=fun _=>mU) none (fun body=>
  Bool.rec (motive:=fun _=>mU) none
   (rO (hooks g) cf has call f.ntmps fuel (I5 cf f.results.toList vY) body [] (I5 cf f.results.toList vY) (zQ 0 args RT.nil) O nx)
   (Nat.ble args.length f.ntmps&&Nat.ble f.ntmps 512)) f.body) (fn g)
noncomputable def F9 (hooks:Nat→ze) (fn:Nat→Option Func) (cf:dK) (has:Nat→Bool) (fuel:Nat) (d:Nat):fq:=
 Nat.rec (motive:=fun _=>fq) (fun _ _ _ _ _=>none) (fun _ ih=>MO hooks fn cf has fuel ih) d
inductive Sub (b:Code):Code→Prop where
 | refl:Sub b b
 | WQ {x y:Code} (h:Sub b (.seq x y)):Sub b x
 | WR {x y:Code} (h:Sub b (.seq x y)):Sub b y
 | QD {c:Operand} {x y:Code} (h:Sub b (.cond c x y)):Sub b x
 | QE {c:Operand} {x y:Code} (h:Sub b (.cond c x y)):Sub b y
 | block {i:Nat} {x:Code} (h:Sub b (.block i x)):Sub b x
 | loop {x:Code} (h:Sub b (.loop x)):Sub b x
 | scope {x:Code} (h:Sub b (.scope x)):Sub b x
section
variable (P)
def uR (n m:Nat) (fin:List (Nat×List RV)→VK) (body:Code) (hook:ze):Prop:=∀x y f,hook x y=some f→Sub body (.seq x y)→∀(k:List It) (e:List (Nat×VK)) (kk:VK),Good P n m fin k kk→Qr P n m fin k e→Good P n m fin (.code (.seq x y)::k) (f e kk)
end
theorem iq {hook:ze} {cf:dK} (hcf:jh P cf) (eY:P.follows .mixedOrders=true) {has:Nat→Bool} {call:fq} (hs:jD P call) {n m:Nat} (hn:n≤512) {fin:List (Nat×List RV)→VK} {body:Code} (hh:uR P n m fin body hook) (fuel:Nat):∀(c:Code) (_:Sub body c) (k:List It) (e:List (Nat×VK)) (kk:VK),
 Good P n m fin k kk→Qr P n m fin k e→Good P n m fin (.code c::k) (rO hook cf has call n fuel (fin Df.df) c e kk)
 | .skip,hS,k,e,kk,hk,he=>fun R O nx a h=>(hk R O nx a h).by fun _ W=>WK.skip W
 | .region id ops draw,hS,k,e,kk,hk,he=>DW hcf eY hs hn hk
 | .seq x y,hS,k,e,kk,hk,he=>fun R O nx a h=>by
   have h:Option.rec (motive:=fun _=>VK) (rO hook cf has call n fuel (fin Df.df) x e (rO hook cf has call n fuel (fin Df.df) y e kk)) (fun f=>f e kk) (hook x y) R O nx=some a:=h;cases hx:hook x y with
   | none=>
     rw [hx] at h;exact (iq hcf eY hs hn hh fuel x hS.WQ (.code y::k) e _ (iq hcf eY hs hn hh fuel y hS.WR k e kk hk he) (fun id R O nx a h=>he id R O nx a h) R O nx a h).by fun _ W=>WK.seq W
   | some f=>
     rw [hx] at h;exact hh x y f hx hS k e kk hk he R O nx a h
 | .cond c x y,hS,k,e,kk,hk,he=>fun R O nx a h=>by
   have h:KU (V7 c R) (rO hook cf has call n fuel (fin Df.df) x e kk R O nx) (rO hook cf has call n fuel (fin Df.df) y e kk R O nx)=some a:=h;unfold KU at h;split at h
   ·rename_i t hc;rw [FB] at hc;cases t with
    | true=>exact (iq hcf eY hs hn hh fuel x hS.QD k e kk hk he R O nx a h).by fun _ W=>WK.cond (t:=true) hc W
    | false=>exact (iq hcf eY hs hn hh fuel y hS.QE k e kk hk he R O nx a h).by fun _ W=>WK.cond (t:=false) hc W
   ·cases h
 | .block id b,hS,k,e,kk,hk,he=>fun R O nx a h=>by
   refine (iq hcf eY hs hn hh fuel b hS.block (.blk id::k) ((id,kk)::e) kk (fun R O nx a h=>(hk R O nx a h).by fun _ W=>WK.blk W) (fun id' R O nx a h=>?_) R O nx a h).by fun _ W=>WK.block W;have h:Bool.rec (motive:=fun _=>VK) (KT id' e) kk (Nat.beq id id') R O nx=some a:=h;cases hb:Nat.beq id id' with
   | true=>
     rw [hb] at h;exact ⟨k,by simp only [kL,hb,cond_true],hk R O nx a h⟩
   | false=>
     rw [hb] at h;obtain ⟨k',h1,h2⟩:=he id' R O nx a h;exact ⟨k',by simp only [kL,hb,cond_false];exact h1,h2⟩
 | .loop b,hS,k,e,kk,hk,he=>fun R O nx a h=>by
   have key:∀f,Good P n m fin (.code b :: .lp b::k) (Qq (rO hook cf has call n fuel (fin Df.df) b e) f):=by
    intro f;induction f with
    | zero=>intro R O nx a h;cases h
    | succ f ih=>exact iq hcf eY hs hn hh fuel b hS.loop (.lp b::k) e _ (fun R O nx a h=>(ih R O nx a h).by fun _ W=>WK.again W) (fun id R O nx a h=>he id R O nx a h)
   exact (key fuel R O nx a h).by fun _ W=>WK.enter W
 | .rangeFunc _ _ _ _,hS,k,e,kk,hk,he=>fun R O nx a h=>by cases h
 | .exit id,hS,k,e,kk,hk,he=>fun R O nx a h=>by
   obtain ⟨k',h1,h2⟩:=he id R O nx a h;exact h2.by fun _ W=>WK.exit h1 W
 | .scope b,hS,k,e,kk,hk,he=>fun R O nx a h=>
   (iq hcf eY hs hn hh fuel b hS.scope (.scp b::k) e kk (fun R O nx a h=>(hk R O nx a h).by fun _ W=>WK.scp W) (fun id R O nx a h=>he id R O nx a h) R O nx a h).by fun _ W=>WK.scope W
 | .label _,hS,k,e,kk,hk,he=>fun R O nx a h=>(hk R O nx a h).by fun _ W=>WK.label W
 | .goto _,hS,k,e,kk,hk,he=>fun R O nx a h=>by cases h
 | .ret,hS,k,e,kk,hk,he=>fun R O nx a h=>⟨Df.df,R,O,nx,h,WK.ret rfl⟩
 | .refuse _,hS,k,e,kk,hk,he=>fun R O nx a h=>by cases h
end
theorem MP {cf:dK} (hcf:jh P cf) (eY:P.follows .mixedOrders=true) {hooks:Nat→ze} {fn:Nat→Option Func} (hks:∀g f body,fn g=some f→f.body=some body→∀fin,uR P f.ntmps 1048576 fin body (hooks g)) (hfn:∀g f,fn g=some f→P.funcs[g]? = some f) {has:Nat→Bool} {call:fq} (hs:jD P call) (fuel:Nat):jD P (MO hooks fn cf has fuel call):=by
 intro g args O nx vY a hk;unfold MO at hk;cases hf0:fn g with
 | none=>rw [hf0] at hk;cases hk
 | some f=>
   have hf:=hfn g f hf0;rw [hf0] at hk;simp only at hk;cases hb:f.body with
   | none=>rw [hb] at hk;cases hk
   | some body=>
     rw [hb] at hk;simp only at hk;cases hg:(Nat.ble args.length f.ntmps&&Nat.ble f.ntmps 512) with
     | false=>rw [hg] at hk;cases hk
     | true=>
       rw [hg] at hk;simp only at hk;simp only [Bool.and_eq_true] at hg;have g1:=Nat.le_of_ble_eq_true hg.1;have g2:=Nat.le_of_ble_eq_true hg.2
       have W:=iq (P:=P) (m:=1048576) (fin:=Wd (I5 cf f.results.toList vY)) hcf eY hs g2 (hks g f body hf0 hb _) fuel body .refl [] [] (I5 cf f.results.toList vY) (fun R O nx a h=>⟨[],R,O,nx,h,WK.done rfl⟩)
        (fun id R O nx a h=>by cases h) _ _ _ _ hk
       obtain ⟨D1,R1,O1,y8,hret,W⟩:=W;cases D1 with
       | cons=>cases hret
       | nil=>
       have hret:I5 cf f.results.toList vY R1 O1 y8=some a:=hret;unfold I5 at hret;cases hres:dO (lW cf.E R1.fn O1.fn) f.results.toList with
       | none=>rw [hres] at hret;cases hret
       | some Ky=>
         rw [hres] at hret;refine ⟨one Ky,O1,y8,hret,?_⟩
         have Zv:lZ f.ntmps (zQ 0 args RT.nil) O = { n:=f.ntmps,R:=fun t=>(args[t]?).getD .bot,O:=O.fn }:=by
          unfold lZ;rw [DT args 0 _ (by omega),RT.Fv];congr 1;funext t;simp only [Nat.not_lt_zero,if_false,Nat.zero_add,Nat.sub_zero];split
          ·rfl
          ·rw [List.getElem?_eq_none (by omega)];rfl
         intro κ φ w vs h1 h2 h3 h4;refine qG hf hb ?_
         have F:av κ φ w { n:=f.ntmps,R:=fun t=>(args[t]?).getD .bot,O:=O.fn } { tmps:=vs++Array.replicate (f.ntmps-vs.size) undef,defers:=[] }:=by
          refine ⟨fun t=>?_,h1,h2,by simp;omega,trivial⟩;by_cases ht:t < args.length
          ·have e1:args[t]? = some args[t]:=by simp [ht]
           have e2:vs[t]? = some vs[t]:=by simp [show t < vs.size by omega]
           have e3:(vs++Array.replicate (f.ntmps-vs.size) undef).getD t undef=vs[t]:=by
            rw [Array.getD_eq_getD_getElem?,Array.getElem?_append_left (by omega),e2];rfl
           simp only [e1,Option.getD_some,e3];exact h4 t _ _ e1 e2
          ·have e1:args[t]? = none:=by simp;omega
           simp only [e1,Option.getD_none];exact .bot _
         intro b cs;rw [Zv] at W;obtain ⟨e,a',w',κ',φ',s',he,hs',F',R',K',harr⟩:=W κ φ w _ F b cs;subst hs';refine ⟨e,a',w',he,⟨Qa.nil F'.df,?_⟩,harr⟩;rw [hcf.E] at hres
         have hrun:∃us:List Value,(results f a'.tmps).run P w' = .ok (if hh:us.toArray.size=1 then us.toArray[0] else .tuple us.toArray) w'∧us.length=Ky.length∧
          ∀(i:Nat) (x:RV) (v:Value),Ky[i]? = some x→us[i]? = some v→bB κ' φ' O1.fn w'.heap x v:=by
          have hdef:results f a'.tmps=(do
           let vs ←f.results.mapM (IY a'.tmps)
           pure (if h:vs.size=1 then vs[0] else .tuple vs)):=by
           unfold results IY;rfl
          obtain ⟨us,u1,u2,u3⟩:=rC F' (IY a'.tmps) (fun _=>rfl) (fun _ _=>rfl) _ Ky hres;refine ⟨us,?_,u2,u3⟩;rw [hdef];simp only [Sem.run_bind];rw [Array.mapM_eq_mapM_toList];simp only [Sem.run_map];rw [u1];rfl
         obtain ⟨us,hrun,u2,u3⟩:=hrun
         have hlt:∀i,φ i≠.un→i < 1048576:=fun i hi=>by
          rcases Nat.lt_or_ge i 1048576 with h | h
          ·exact h
          ·have:=h1 i
           rw [OT.Rc h] at this;exact absurd this hi
         exact ⟨_,hrun,_,κ',φ',rfl,Kw (by omega) u3,F'.objs,F'.bnd,R',⟨fun i hi=>K'.phi i (hlt i hi) hi,fun i n hi hn=>K'.len i n (hlt i hi) hi hn⟩⟩
theorem Ak {cf:dK} (hcf:jh P cf) (eY:P.follows .mixedOrders=true) {hooks:Nat→ze} {fn:Nat→Option Func} (hks:∀g f body,fn g=some f→f.body=some body→∀fin,uR P f.ntmps 1048576 fin body (hooks g)) (hfn:∀g f,fn g=some f→P.funcs[g]? = some f) {has:Nat→Bool} (fuel:Nat):∀d,jD P (F9 hooks fn cf has fuel d)
 | 0=>fun g args O nx vY a h=>by cases h
 | d+1=>MP hcf eY hks hfn (Ak hcf eY hks hfn fuel d) fuel
theorem Ga {cf:dK} (hcf:jh P cf) (eY:P.follows .mixedOrders=true) {hooks:Nat→ze} {fn:Nat→Option Func} (hks:∀g f body,fn g=some f→f.body=some body→∀fin,uR P f.ntmps 1048576 fin body (hooks g)) (hfn:∀g f,fn g=some f→P.funcs[g]? = some f) (has:Nat→Bool) (fuel d:Nat) {f:Nat} {args:List RV} {objs:List au} {r:RV} {os:List au}
 (h:IZ (BU (F9 hooks fn cf has fuel d)) f args objs=some (r,os,[])):C P f args objs (fun r2 o2=>r2=r∧o2=os):=
 GY (zW (Ak hcf eY hks hfn fuel d)) f args objs r os [] h (by simp)
end Go.Am
namespace Go.Am
set_option linter.unusedSectionVars false
variable {P:Program} [Gl] [Df]
theorem av.Sw {κ:bn} {φ:bG} {w w' : World} {s:bP} {a:Act} (F:av κ φ w s a) {b:Nat} {o o' : Obj} (hb:κ b = .kr) (ho:w.heap[b]? = some o) (hc:∀c ty fz,o≠.cells c ty fz)
 (hw:w'.heap=w.heap.setIfInBounds b o'):av κ φ w' s a:=by
 have ne:∀x,x≠b→w'.heap[x]? = w.heap[x]?:=fun x hx=>by rw [hw,Array.getElem?_setIfInBounds_ne (fun e=>hx e.symm)]
 have hsz:w'.heap.size=w.heap.size:=by rw [hw];simp
 have iE:∀x,κ x = .dA→κ x = .dA∧w'.heap[x]? = w.heap[x]?:=fun x hx=>⟨hx,ne x (fun e=>by subst e;rw [hb] at hx;cases hx)⟩
 have M:dG κ φ s.O w.heap κ φ s.O w'.heap:=
  { dA:=iE
    wu:=fun x c ty fz hx=>⟨c,fz,by rw [ne x (fun e=>by subst e;rw [ho] at hx;injection hx with hx;exact hc _ _ _ hx)];exact hx,rfl⟩
    phi:=fun _ _=>rfl
    len:=fun _ _ _ h=>h }
 refine ⟨fun t=>(F.regs t).mono M,fun i=>(F.objs i).mono M (fun x hx=>⟨hx,ne x (fun e=>by subst e;rw [hb] at hx;cases hx)⟩) rfl,⟨fun x hx=>by rw [hsz];exact F.bnd.lt x hx,fun p hp=>?_⟩,F.n,F.df.mono M⟩;obtain ⟨h1,c,ty,fz,h2,h3⟩:=F.bnd.gl p hp;exact ⟨h1,c,ty,fz,by rw [ne p.1 (fun e=>by rw [e,ho] at h2;injection h2 with h2;exact hc _ _ _ h2)];exact h2,h3⟩
noncomputable def forget (ws:List Nat) (R:RT):RT:=ws.foldl (fun R t=>R.put t .bot) R
theorem av.kV {κ:bn} {φ:bG} {w:World} {s:bP} {a:Act} (F:av κ φ w s a) {d:Nat} (hd:d < s.n) (hb:s.R d = .bot) (v:Value):av κ φ w s (a.put (some d) v):=by
 have:=F.put (d:=d) (rv:=.bot) (v:=v) hd (.bot _)
 have e:({ s with R:=iP s.R d .bot }:bP)=s:=by
  have:iP s.R d .bot=s.R:=by
   funext t;simp only [iP];split
   ·rename_i h;rw [h,hb]
   ·rfl
  rw [this]
 rw [e] at this;exact this
theorem iJ {a:Act} {n d:Nat} {v:Value} (hn:a.tmps.size=n) (hd:d < n):(a.put (some d) v).eval (.tmp d)=v:=by
 show (a.put (some d) v).tmps.getD d undef=v
 rw [wR,if_pos ⟨rfl,by rw [hn];exact hd⟩]
theorem dL {a:Act} {d t:Nat} {v:Value} (h:t≠d):(a.put (some d) v).eval (.tmp t)=a.eval (.tmp t):=by
 show (a.put (some d) v).tmps.getD t undef=a.tmps.getD t undef
 rw [wR,if_neg (fun e=>h e.1)]
theorem fV (a:Act) (d:Nat) (v:Value):(a.put (some d) v).tmps.size=a.tmps.size:=by simp [Act.put]
structure ko where
 it:Nat
 nx:Nat
 tb:Nat
 en:Nat
 ke:Nat
 kv:Nat
 a1:Nat
 a2:Nat
 tg:Nat
 pg:Nat
def ko.ws (g:ko):List Nat:=[g.it,g.nx,g.tb,g.en,g.ke,g.kv,g.a1,g.a2,g.tg]
theorem El {ops:Array Oper} {o0 o1:Oper} (ho:ops = #[o0,o1]) {g:ko} (h0:o0.op = .next (.tmp g.it) false) (d0:o0.dst=some g.nx) (g0:o0.guard=none)
 (h1:o1.op = .extract (.tmp g.nx) 0) (d1:o1.dst=some g.tb) (g1:o1.guard=none) {a:Act} {w w' : World} {n:Nat} (hn:a.tmps.size=n) (hnx:g.nx < n) {t:Bool} {vs:Array Value} {bp:Value}
 (hit:a.eval (.tmp g.it)=bp) (hv0:vs[0]? = some (.bool t)) (hr:(Instr.next bp false o0.type).run P w = .ok (.tuple vs) w') :
 wpOps P ops (fun e a' w2=>e = .normal∧w2=w'∧a'=(a.put (some g.nx) (.tuple vs)).put (some g.tb) (.bool t)) (List.range ops.size) a w:=by
 subst ho;have hsz:(#[o0,o1]:Array Oper).size=2:=rfl;rw [hsz]
 show wpOps P #[o0,o1] _ [0,1] a w
 rw [wpOps_cons];unfold wpOp;have e0:(#[o0,o1]:Array Oper)[0]? = some o0:=rfl;rw [e0];simp only [Region.wanted,g0,if_true];left;refine dX (v:=.tuple vs) (w':=w') ?_ ?_
 ·simp only [execOp,h0,hit,Sem.run_bind,hr,Result.andThen_ok,Sem.run_pure]
 ·rw [d0,wpOps_cons];unfold wpOp;have e1:(#[o0,o1]:Array Oper)[1]? = some o1:=rfl;rw [e1];simp only [Region.wanted,g1,if_true];left;refine dX (v:=.bool t) (w':=w') ?_ ?_
  ·have hx:(a.put (some g.nx) (.tuple vs)).eval (.tmp g.nx) = .tuple vs:=iJ hn hnx;simp only [execOp,h1,hx];simp [Instr.extract,hv0]
  ·rw [d1];exact ⟨rfl,rfl,rfl⟩
theorem jH {ops:Array Oper} {Q:Exit→Act→World→Prop} {i:Nat} {rest:List Nat} {o:Oper} (hi:ops[i]? = some o) (hg:o.guard=none) {d:Nat} (hd:o.dst=some d) {a:Act} {w w' : World} {v:Value}
 (hr:(execOp a.eval o).run P w = .ok (.value v) w') (h:wpOps P ops Q rest (a.put (some d) v) w'):wpOps P ops Q (i::rest) a w:=by
 rw [wpOps_cons];unfold wpOp;rw [hi];simp only [Region.wanted,hg,if_true];left;exact dX hr (by rw [hd];exact h)
theorem Jj {ops:Array Oper} {o0 o1 o2:Oper} (ho:ops = #[o0,o1,o2]) {g:ko} (h0:o0.op = .entry (.tmp g.it)) (d0:o0.dst=some g.en) (g0:o0.guard=none)
 (h1:o1.op = .extract (.tmp g.en) 0) (d1:o1.dst=some g.ke) (g1:o1.guard=none) (h2:o2.op = .assign (.tmp g.ke)) (d2:o2.dst=some g.kv) (g2:o2.guard=none)
 {a:Act} {w:World} {n:Nat} (hn:a.tmps.size=n) (hen:g.en < n) (hke:g.ke < n) {k v bp:Value} (hit:a.eval (.tmp g.it)=bp) (hr:(Instr.entry bp).run P w = .ok (.tuple #[k,v]) w) :
 wpOps P ops (fun e a' w2=>e = .normal∧w2=w∧a'=((a.put (some g.en) (.tuple #[k,v])).put (some g.ke) k).put (some g.kv) k) (List.range ops.size) a w:=by
 subst ho
 show wpOps P #[o0,o1,o2] _ [0,1,2] a w
 refine jH (o:=o0) rfl g0 d0 (v:=.tuple #[k,v]) (w':=w) ?_ (jH (o:=o1) rfl g1 d1 (v:=k) (w':=w) ?_ (jH (o:=o2) rfl g2 d2 (v:=k) (w':=w) ?_ ⟨rfl,rfl,rfl⟩))
 ·simp only [execOp,h0,hit,Sem.run_bind,hr,Result.andThen_ok,Sem.run_pure]
 ·have hx:(a.put (some g.en) (.tuple #[k,v])).eval (.tmp g.en) = .tuple #[k,v]:=iJ hn hen;simp only [execOp,h1,hx];simp [Instr.extract]
 ·have hx:((a.put (some g.en) (.tuple #[k,v])).put (some g.ke) k).eval (.tmp g.ke)=k:=iJ (by rw [fV];exact hn) hke;simp only [execOp,h2,hx];rfl
theorem Pz {ops:Array Oper} {o0 o1 o2:Oper} {T T2:TypeId} (ho:ops = #[o0,o1,o2]) {g:ko} (h0:o0.op = .move (.tmp g.kv)) (d0:o0.dst=some g.a1) (g0:o0.guard=none)
 (h1:o1.op = .move (.tmp g.pg)) (d1:o1.dst=some g.a2) (g1:o1.guard=none) (h2:o2.op = .binOp .gtr T (.tmp g.a1) (.tmp g.a2) T2) (d2:o2.dst=some g.tg) (g2:o2.guard=none)
 {a:Act} {w:World} {n:Nat} (hn:a.tmps.size=n) (ha1:g.a1 < n) (ha2:g.a2 < n) (hne:g.pg≠g.a1) (hne2:g.a1≠g.a2) {k p:Int} (hk:a.eval (.tmp g.kv) = .int .i64 k) (hp:a.eval (.tmp g.pg) = .int .i64 p) (hle:k≤p) :
 wpOps P ops (fun e a' w2=>e = .normal∧w2=w∧a'=((a.put (some g.a1) (.int .i64 k)).put (some g.a2) (.int .i64 p)).put (some g.tg) (.bool false)) (List.range ops.size) a w:=by
 subst ho
 show wpOps P #[o0,o1,o2] _ [0,1,2] a w
 refine jH (o:=o0) rfl g0 d0 (v:=.int .i64 k) (w':=w) ?_ (jH (o:=o1) rfl g1 d1 (v:=.int .i64 p) (w':=w) ?_ (jH (o:=o2) rfl g2 d2 (v:=.bool false) (w':=w) ?_ ⟨rfl,rfl,rfl⟩))
 ·simp only [execOp,h0,hk];rfl
 ·have hx:(a.put (some g.a1) (.int .i64 k)).eval (.tmp g.pg) = .int .i64 p:=by rw [dL hne];exact hp
  simp only [execOp,h1,hx];rfl
 ·have hx:((a.put (some g.a1) (.int .i64 k)).put (some g.a2) (.int .i64 p)).eval (.tmp g.a2) = .int .i64 p:=iJ (by rw [fV];exact hn) ha2;have hy:((a.put (some g.a1) (.int .i64 k)).put (some g.a2) (.int .i64 p)).eval (.tmp g.a1) = .int .i64 k:=by rw [dL hne2];exact iJ hn ha1
  have hlt:¬p < k:=by omega
  simp only [execOp,h2,hx,hy];simp [eqGuard,binOp,Op.intCmp,hlt]
structure rP where
 r7:Nat
 PD:Array Oper
 ND:Nat
 id1:Nat
 r8:Nat
 Sy:Array Oper
 r9:Nat
 Sz:Array Oper
 del:Code
def rP.body (c:rP) (g:ko):Code:=
 .seq (.region c.r7 c.PD false) (.seq (.cond (.tmp g.tb) .skip (.exit c.ND)) (.block c.id1 (.seq (.region c.r8 c.Sy false) (.seq (.region c.r9 c.Sz false) (.cond (.tmp g.tg) c.del .skip)))))
structure RgOk (c:rP) (g:ko) (n:Nat):Prop where
 o7:∃o0 o1,c.PD = #[o0,o1]∧o0.op = .next (.tmp g.it) false∧o0.dst=some g.nx∧o0.guard=none∧o1.op = .extract (.tmp g.nx) 0∧o1.dst=some g.tb∧o1.guard=none
 o8:∃o0 o1 o2,c.Sy = #[o0,o1,o2]∧o0.op = .entry (.tmp g.it)∧o0.dst=some g.en∧o0.guard=none∧o1.op = .extract (.tmp g.en) 0∧o1.dst=some g.ke∧o1.guard=none∧o2.op = .assign (.tmp g.ke)∧o2.dst=some g.kv∧o2.guard=none
 o9:∃o0 o1 o2 T T2,c.Sz = #[o0,o1,o2]∧o0.op = .move (.tmp g.kv)∧o0.dst=some g.a1∧o0.guard=none∧o1.op = .move (.tmp g.pg)∧o1.dst=some g.a2∧o1.guard=none∧o2.op = .binOp .gtr T (.tmp g.a1) (.tmp g.a2) T2∧o2.dst=some g.tg∧o2.guard=none
 lt:∀d∈g.ws,d < n
 Zw:g.pg∉g.ws
 nodup:g.ws.Nodup
theorem uS {id:Nat} {ops:Array Oper} {a a1:Act} {w w' : World} (h:wpOps P ops (fun e a' w2=>e = .normal∧w2=w'∧a'=a1) (List.range ops.size) a w) (fr:Frame) (k:List Item) (cs:List Frame) :
 Steps P (lone (fr.at a (.code (.region id ops false)::k)) cs w) (lone (fr.at a1 k) cs w'):=by
 obtain ⟨e,a2,w2,⟨rfl,rfl,rfl⟩,harr⟩:=wp_region (id:=id) h fr k cs;exact harr
theorem PE {c:rP} {g:ko} {n m:Nat} (hc:RgOk c g n) {K:List It} {Q:bP→Prop} {s:bP} (hsn:s.n=n) (WS:∀d∈g.ws,d≠g.it→s.R d = .bot) {p:Int} (hpg:s.R g.pg = .d (.int .i64 p))
 (hK:WK P m K s Q) {κ0:bn} {w0:World} {φ0:bG} {O0:Tab} {b mb since clock:Nat} {dN:Array MapEntry} (hb0:w0.heap.size≤b) (hold:∀x∈dN.toList,x.born < since) (hnd:(dN.toList.map (·.born)).Nodup)
 (hle:∀x∈dN.toList,∃k:Int,x.key = .int .i64 k∧k≤p) (hne:mb≠b) :
 ∀(fuel:Nat) (κ:bn) (φ:bG) (w:World) (a:Act) (seen:Array Nat) (c0:Nat),(leftOf dN seen).size=fuel→av κ φ w s a→Fr κ0 w0 κ w→mZ m φ0 O0 φ s.O→κ b = .kr→
  w.heap[b]? = some (.mapIter (some mb) since seen c0)→since≤c0→w.heap[mb]? = some (.map dN clock)→since≤clock→a.eval (.tmp g.it) = .pointer (some ⟨b,0,none⟩)→
  ∀(fr:Frame) (cs:List Frame),∃e a' w' κ' φ' s',(e = .normal∨e = .ret)∧Q s'∧av κ' φ' w' s' a'∧Fr κ0 w0 κ' w'∧mZ m φ0 O0 φ' s'.O∧
   Arrives P (lone (fr.at a ((.code (c.body g) :: .lp (c.body g) :: .blk c.ND::K).map It.item)) cs w) fr [] cs e a' w':=by
 obtain ⟨p0,p1,e7,p2,p3,p4,p5,p6,p7⟩:=hc.o7;obtain ⟨q0,q1,q2,e8,q3,q4,q5,q6,q7,q8,q9,q10,q11⟩:=hc.o8;obtain ⟨t0,t1,t2,T,T2,e9,t3,t4,t5,t6,t7,t8,t9,t10,t11⟩:=hc.o9;have hw:=hc.lt;have MQ:=hc.nodup;have Cy:=hc.Zw;simp only [ko.ws,List.mem_cons,List.mem_nil_iff,or_false,forall_eq_or_imp,forall_eq] at hw WS;simp only [ko.ws,List.nodup_cons,List.mem_cons,List.mem_nil_iff,or_false,not_or] at MQ;simp only [ko.ws,List.mem_cons,List.mem_nil_iff,or_false,not_or] at Cy;obtain ⟨l1,l2,l3,l4,l5,l6,l7,l8,l9⟩:=hw;obtain ⟨-,u2,u3,u4,u5,u6,u7,u8,u9⟩:=WS;obtain ⟨⟨n12,n13,n14,n15,n16,n17,n18,n19⟩,⟨n23,n24,n25,n26,n27,n28,n29⟩,⟨n34,n35,n36,n37,n38,n39⟩,⟨n45,n46,n47,n48,n49⟩,⟨n56,n57,n58,n59⟩,⟨n67,n68,n69⟩,⟨n78,n79⟩,n89,-⟩:=MQ;have r2:=u2 (fun e=>n12 e.symm);have r3:=u3 (fun e=>n13 e.symm);have r4:=u4 (fun e=>n14 e.symm);have r5:=u5 (fun e=>n15 e.symm);have r6:=u6 (fun e=>n16 e.symm);have r7:=u7 (fun e=>n17 e.symm);have r8:=u8 (fun e=>n18 e.symm);have r9:=u9 (fun e=>n19 e.symm);intro fuel;induction fuel using Nat.strongRecOn with
 | _ fuel ih=>
   intro κ φ w a seen c0 hfuel F hR hKp hκ hr hsc hm hsk hit fr cs;have hn:a.tmps.size=n:=by rw [F.n];exact hsn
   have start:∀{a1:Act} {w1:World},wpOps P c.PD (fun e a' w2=>e = .normal∧w2=w1∧a'=a1) (List.range c.PD.size) a w→
    Steps P (lone (fr.at a ((.code (c.body g) :: .lp (c.body g) :: .blk c.ND::K).map It.item)) cs w)
     (lone (fr.at a1 (.code (.seq (.cond (.tmp g.tb) .skip (.exit c.ND)) (.block c.id1 (.seq (.region c.r8 c.Sy false) (.seq (.region c.r9 c.Sz false) (.cond (.tmp g.tg) c.del .skip))))) :: .inLoop (c.body g) :: .inBlock c.ND::K.map It.item)) cs w1):=by
    intro a1 w1 h;refine Steps.trans (.one step_seq) ?_;exact uS h fr _ cs
   rcases Go.run_next_at w p0.type b mb since c0 seen dN clock hr hm hold hsc with ⟨_,hrun⟩ | ⟨e,he,w1,hw1,hrun⟩
   ·have h7:=El (P:=P) e7 p2 p3 p4 p5 p6 p7 hn l2 hit (t:=false) rfl hrun;have F1:av κ φ w s ((a.put (some g.nx) (.tuple #[.bool false])).put (some g.tb) (.bool false)):=(F.kV (by rw [hsn];exact l2) r2 _).kV (by rw [hsn];exact l3) r3 _;obtain ⟨e',a',w',κ',φ',s',h1,h2,h3,h4,h5,h6⟩:=hK κ φ w _ F1 fr cs;refine ⟨e',a',w',κ',φ',s',h1,h2,h3,hR.trans h4,hKp.trans h5,h6.of_steps ?_⟩;refine Steps.trans (start h7) (Steps.trans (.one step_seq) (Steps.trans (.one (step_cond (t:=false) (iJ (by rw [fV];exact hn) l3))) ?_));refine .one (step_exit ?_);simp [exitTo]
   ·obtain ⟨hme,_⟩:=Go.mem_left he;obtain ⟨kk,hkk,hkp⟩:=hle e hme
    have hh:(ChangeMaps.setBlock w1 b (.mapIter (some mb) since (seen.push e.born) clock)).heap=w.heap.setIfInBounds b (.mapIter (some mb) since (seen.push e.born) clock):=by
     rcases hw1 with rfl | rfl<;>rfl
    have hos:(ChangeMaps.setBlock w1 b (.mapIter (some mb) since (seen.push e.born) clock)).os=w.os∧(ChangeMaps.setBlock w1 b (.mapIter (some mb) since (seen.push e.born) clock)).output=w.output:=by
     rcases hw1 with rfl | rfl<;>exact ⟨rfl,rfl⟩
    generalize ChangeMaps.setBlock w1 b (.mapIter (some mb) since (seen.push e.born) clock)=w2 at hrun hh hos;have hlt:=(Array.getElem?_eq_some_iff.1 hr).1;have hb2:w2.heap[b]? = some (.mapIter (some mb) since (seen.push e.born) clock):=by rw [hh];simp [hlt]
    have hm2:w2.heap[mb]? = some (.map dN clock):=by rw [hh,Array.getElem?_setIfInBounds_ne (fun e=>hne e.symm)];exact hm
    have ne:∀x,x≠b→w2.heap[x]? = w.heap[x]?:=fun x hx=>by rw [hh,Array.getElem?_setIfInBounds_ne (fun e=>hx e.symm)]
    have F2:av κ φ w2 s a:=F.Sw hκ hr (by intro c ty fz h;cases h) hh
    have hR2:Fr κ0 w0 κ w2:=by
     refine ⟨by rw [hh];simpa using hR.size,fun x hx=>?_,fun x hx ho=>?_,fun x c ty fz hx=>?_,hos.1.trans hR.os,hos.2.trans hR.out⟩
     ·obtain ⟨a1,a2⟩:=hR.dA x hx;exact ⟨a1,(ne x (fun e=>by subst e;rw [hκ] at a1;cases a1)).trans a2⟩
     ·obtain ⟨a1,a2⟩:=hR.kr x hx ho;exact ⟨a1,(ne x (by omega)).trans a2⟩
     ·obtain ⟨c',tL,a1,a2⟩:=hR.wu x c ty fz hx
      have:=(Array.getElem?_eq_some_iff.1 hx).1
      exact ⟨c',tL,(ne x (by omega)).trans a1,a2⟩
    have hpv:a.eval (.tmp g.pg) = .int .i64 p:=by
     have:=F.regs g.pg
     rw [hpg] at this
     show a.tmps.getD g.pg undef=_
     generalize a.tmps.getD g.pg undef=v at this;cases this with
     | d h=>cases h;rfl
    have h7:=El (P:=P) e7 p2 p3 p4 p5 p6 p7 hn l2 hit (t:=true) rfl hrun;have hn2:((a.put (some g.nx) (.tuple #[.bool true,e.key,e.val])).put (some g.tb) (.bool true)).tmps.size=n:=by rw [fV,fV];exact hn
    have hit2:((a.put (some g.nx) (.tuple #[.bool true,e.key,e.val])).put (some g.tb) (.bool true)).eval (.tmp g.it) = .pointer (some ⟨b,0,none⟩):=by
     rw [dL n13,dL n12];exact hit
    have hp2:((a.put (some g.nx) (.tuple #[.bool true,e.key,e.val])).put (some g.tb) (.bool true)).eval (.tmp g.pg) = .int .i64 p:=by
     rw [dL Cy.2.2.1,dL Cy.2.1];exact hpv
    have F3:av κ φ w2 s ((a.put (some g.nx) (.tuple #[.bool true,e.key,e.val])).put (some g.tb) (.bool true)):=(F2.kV (by rw [hsn];exact l2) r2 _).kV (by rw [hsn];exact l3) r3 _;have htb:((a.put (some g.nx) (.tuple #[.bool true,e.key,e.val])).put (some g.tb) (.bool true)).eval (.tmp g.tb) = .bool true:=iJ (by rw [fV];exact hn) l3;have first:=start h7;generalize (a.put (some g.nx) (.tuple #[.bool true,e.key,e.val])).put (some g.tb) (.bool true)=a2 at hn2 hit2 hp2 F3 htb first;have h8:=Jj (P:=P) e8 q3 q4 q5 q6 q7 q8 q9 q10 q11 hn2 l4 l5 hit2 (Go.run_entry_at w2 b mb since seen dN clock e hb2 hm2 hme hnd);have Zx:(((a2.put (some g.en) (.tuple #[e.key,e.val])).put (some g.ke) e.key).put (some g.kv) e.key).tmps.size=n:=by rw [fV,fV,fV];exact hn2
    have hk3:(((a2.put (some g.en) (.tuple #[e.key,e.val])).put (some g.ke) e.key).put (some g.kv) e.key).eval (.tmp g.kv) = .int .i64 kk:=by rw [iJ (by rw [fV,fV];exact hn2) l6];exact hkk
    have hp3:(((a2.put (some g.en) (.tuple #[e.key,e.val])).put (some g.ke) e.key).put (some g.kv) e.key).eval (.tmp g.pg) = .int .i64 p:=by
     rw [dL Cy.2.2.2.2.2.1,dL Cy.2.2.2.2.1,dL Cy.2.2.2.1];exact hp2
    have hit3:(((a2.put (some g.en) (.tuple #[e.key,e.val])).put (some g.ke) e.key).put (some g.kv) e.key).eval (.tmp g.it) = .pointer (some ⟨b,0,none⟩):=by
     rw [dL n16,dL n15,dL n14];exact hit2
    have F4:av κ φ w2 s (((a2.put (some g.en) (.tuple #[e.key,e.val])).put (some g.ke) e.key).put (some g.kv) e.key):=
     ((F3.kV (by rw [hsn];exact l4) r4 _).kV (by rw [hsn];exact l5) r5 _).kV (by rw [hsn];exact l6) r6 _
    generalize ((a2.put (some g.en) (.tuple #[e.key,e.val])).put (some g.ke) e.key).put (some g.kv) e.key=a3 at h8 Zx hk3 hp3 hit3 F4;have h9:=Pz (P:=P) (w:=w2) e9 t3 t4 t5 t6 t7 t8 t9 t10 t11 Zx l7 l8 Cy.2.2.2.2.2.2.1 n78 hk3 hp3 hkp
    have F5:av κ φ w2 s (((a3.put (some g.a1) (.int .i64 kk)).put (some g.a2) (.int .i64 p)).put (some g.tg) (.bool false)):=
     ((F4.kV (by rw [hsn];exact l7) r7 _).kV (by rw [hsn];exact l8) r8 _).kV (by rw [hsn];exact l9) r9 _
    have htg:(((a3.put (some g.a1) (.int .i64 kk)).put (some g.a2) (.int .i64 p)).put (some g.tg) (.bool false)).eval (.tmp g.tg) = .bool false:=iJ (by rw [fV,fV];exact Zx) l9
    have Zy:(((a3.put (some g.a1) (.int .i64 kk)).put (some g.a2) (.int .i64 p)).put (some g.tg) (.bool false)).eval (.tmp g.it) = .pointer (some ⟨b,0,none⟩):=by
     rw [dL n19,dL n18,dL n17];exact hit3
    obtain ⟨e',a',w',κ',φ',s',h1,h2,h3,h4,h5,h6⟩:=ih _ (by rw [←hfuel];exact Go.left_shrinks dN seen e he) κ φ w2 _ (seen.push e.born) clock rfl F5 hR2 hKp hκ hb2 hsk hm2 hsk Zy fr cs;refine ⟨e',a',w',κ',φ',s',h1,h2,h3,h4,h5,h6.of_steps ?_⟩;refine Steps.trans first (Steps.trans (.one step_seq) (Steps.trans (.one (step_cond (t:=true) htb)) (Steps.trans (.one step_skip) (Steps.trans (.one step_block) (Steps.trans (.one step_seq) ?_)))));refine Steps.trans (uS h8 fr _ cs) (Steps.trans (.one step_seq) (Steps.trans (uS h9 fr _ cs) (Steps.trans (.one (step_cond (t:=false) htg)) (Steps.trans (.one step_skip) (Steps.trans (.one step_inBlock) (.one step_inLoop))))))
theorem Em {cf:dK} (hcf:jh P cf) {has:Nat→Bool} {call:fq} (hs:jD P call) {ops:Array Oper} {n:Nat} (hn2:n≤512) (hg:cO n ops=true):∀(l:List Oper) (k:Nat) {R:RT} {O:OT} {nx:Nat} {kk:VK} {a},
 FC cf has call ops l R O nx kk=some a→(∀i o,l[i]? = some o→ops[k+i]? = some o)→
 ∃R' O' nx',kk R' O' nx'=some a∧∀{κ:bn} {φ:bG} {w:World} {act:Act} {Q:Exit→Act→World→Prop} {rest:List Nat},av κ φ w (lZ n R O) act→
  (∀a' w' κ' φ',av κ' φ' w' (lZ n R' O') a'→Fr κ w κ' w'→Kp φ O.fn φ' O'.fn→wpOps P ops Q rest a' w')→wpOps P ops Q (List.range' k l.length++rest) act w
 | [],k,R,O,nx,kk,a,h,hl=>⟨R,O,nx,h,fun F hk=>hk _ _ _ _ F (Fr.refl _ _) (Kp.refl _ _)⟩
 | o::r,k,R,O,nx,kk,a,h,hl=>by
   have h:Rh cf has call ops o R O nx (fun R O nx=>FC cf has call ops r R O nx kk)=some a:=h;obtain ⟨vc,R1,O1,y8,hv,h1,h2⟩:=KV hs h;obtain ⟨R2,O2,YR,h3,h4⟩:=Em hcf hs hn2 hg r (k+1) h2 (fun i o' hi=>by have:=hl (i+1) o' (by simpa using hi);rw [←this];congr 1;omega);refine ⟨R2,O2,YR,h3,fun F hk=>?_⟩;have hk0:ops[k]? = some o:=by simpa using hl 0 o rfl
   simp only [List.length_cons,List.range'_succ,List.cons_append];rw [wpOps_cons];refine BN hcf hv F h1 hk0 (bV hg) hn2 (fun a' w' κ' φ' g1 g2 g3=>?_);exact h4 g1 (fun a2 w2 κ2 φ2 k1 k2 k3=>hk a2 w2 κ2 φ2 k1 (g2.trans k2) (g3.trans k3))
def Zz:fq:=fun _ _ _ _ _=>none
theorem SA:jD P Zz:=fun _ _ _ _ _ _ h=>by cases h
theorem Al:∀(ws:List Nat) (R:RT),(∀d∈ws,d < 512)→(forget ws R).fn=fun t=>if t∈ws then .bot else R.fn t
 | [],R,_=>by funext t;simp [forget]
 | d::r,R,h=>by
   have:forget (d::r) R=forget r (R.put d .bot):=rfl
   rw [this,Al r _ (fun x hx=>h x (by simp [hx])),RT.rE (h d (by simp))];funext t;by_cases h1:t∈r
   ·simp [h1]
   ·simp only [h1,if_false,iP,List.mem_cons,or_false]
theorem av.PG {κ:bn} {φ:bG} {w w' : World} {s:bP} {a:Act} (F:av κ φ w s a) {o:Obj} (hw:w'.heap=w.heap.push o):av κ φ w' s a:=by
 have ne:∀x,x < w.heap.size→w'.heap[x]? = w.heap[x]?:=fun x hx=>by rw [hw,dz hx]
 have iE:∀x,κ x = .dA→κ x = .dA∧w'.heap[x]? = w.heap[x]?:=fun x hx=>⟨hx,ne x (F.bnd.lt x (by rw [hx];simp))⟩
 have M:dG κ φ s.O w.heap κ φ s.O w'.heap:=
  { dA:=iE
    wu:=fun x c ty fz hx=>⟨c,fz,by rw [ne x (iY hx)];exact hx,rfl⟩
    phi:=fun _ _=>rfl
    len:=fun _ _ _ h=>h }
 refine ⟨fun t=>(F.regs t).mono M,fun i=>(F.objs i).mono M (fun x hx=>⟨hx,ne x (F.bnd.lt x (by rw [hx];simp))⟩) rfl,⟨fun x hx=>by rw [hw];simp only [Array.size_push];have:=F.bnd.lt x hx;omega,fun p hp=>?_⟩,F.n,F.df.mono M⟩;obtain ⟨h1,c,ty,fz,h2,h3⟩:=F.bnd.gl p hp;exact ⟨h1,c,ty,fz,by rw [ne p.1 (iY h2)];exact h2,h3⟩
def Gb (p:Int) (es:List (DV×DV)):Bool:=es.all fun x=>match x.1 with
 | .int .i64 k=>decide (k≤p)
 | _=>false
theorem WT {cf:dK} (hcf:jh P cf) {has:Nat→Bool} {n m:Nat} (hn:n≤512) {r6:Nat} {oM:Array Oper} {pre:List Oper} {oR:Oper} {t k0 v0:TypeId} {mx:Nat} {c:rP} {g:ko}
 (h6:oM.toList=pre++[oR]) (hg6:cO n oM=true) (hR:oR.op = .range t (.tmp mx)) (dR:oR.dst=some g.it) (gR:oR.guard=none) (hu:P.underlying t=some (.map k0 v0)) (hc:RgOk c g n)
 {R:RT} {O:OT} {nx:Nat} {kk:VK} {a:RV×OT×Nat} {K:List It} {fin:List (Nat×List RV)→VK} (hK:Good P n m fin K kk)
 (h:FC cf has Zz oM pre R O nx (fun R1 O1 y8=>match R1.fn mx,R1.fn g.pg with
   | .map i,.d (.int .i64 p)=>match O1.fn i with
     | some (.map es)=>bif Gb p es then kk (forget g.ws R1) O1 y8 else none
     | _=>none
   | _,_=>none)=some a):Ends P n m fin (.code (.seq (.region r6 oM false) (.block c.ND (.loop (c.body g))))::K) R O a:=by
 have hi:∀i o,pre[i]? = some o→oM[0+i]? = some o:=fun i o hio=>by
  rw [Nat.zero_add,←Array.getElem?_toList,h6,List.getElem?_append_left (List.getElem?_eq_some_iff.1 hio).1];exact hio
 obtain ⟨R1,O1,y8,h3,h4⟩:=Em hcf SA hn hg6 pre 0 h hi;split at h3
 ·rename_i i p hmx hpg;split at h3
  ·rename_i es hes;cases hk:Gb p es with
   | false=>rw [hk] at h3;cases h3
   | true=>
     rw [hk] at h3;obtain ⟨Df1,Rf,Of,nxf,hf,W⟩:=hK _ _ _ _ h3;refine ⟨Df1,Rf,Of,nxf,hf,?_⟩;intro κ φ w a0 F fr cs
     have hlen:List.range oM.size=List.range' 0 pre.length++[pre.length]:=by
      have:oM.size=pre.length+1:=by rw [←Array.length_toList,h6];simp
      rw [this,List.range_eq_range',List.range'_concat];simp
     have hoR:oM[pre.length]? = some oR:=by rw [←Array.getElem?_toList,h6];simp
     have ZA:wpOps P oM (fun e a' w2=>e = .normal∧∃κ1 φ1 w1 a1 mb dN clock,av κ1 φ1 w1 (lZ n R1 O1) a1∧Fr κ w κ1 w1∧Kp φ O.fn φ1 O1.fn∧φ1 i = .at mb∧κ1 mb = .own i∧w1.heap[mb]? = some (.map dN clock)∧JJ dN es.length∧
      (∀(j:Nat) (x:DV×DV) (e:MapEntry),es[j]? = some x→dN[j]? = some e→DR κ1 w1.heap x.1 e.key∧DR κ1 w1.heap x.2 e.val∧e.born < clock)∧
      w2 = { w1 with heap:=w1.heap.push (.mapIter (some mb) clock #[] clock) }∧a'=a1.put (some g.it) (.pointer (some ⟨w1.heap.size,0,none⟩))) (List.range oM.size) a0 w:=by
      rw [hlen];refine h4 F (fun a1 w1 κ1 φ1 g1 g2 g3=>?_);have ho:=g1.objs i;have hes' : (lZ n R1 O1).O i=some (.map es):=hes;rw [hes'] at ho;obtain ⟨mb,dN,clock,k1,k2,k3,k4,k5⟩:=ho
      have hv:a1.eval (.tmp mx) = .map (some mb):=by
       have:=g1.regs mx
       have e:(lZ n R1 O1).R mx = .map i:=hmx;rw [e] at this
       show a1.tmps.getD mx undef=_
       generalize a1.tmps.getD mx undef=v at this;cases this with
       | map hφ=>rw [k1] at hφ;injection hφ with hφ;rw [hφ]
      refine jH hoR gR dR (v:=.pointer (some ⟨w1.heap.size,0,none⟩)) (w':={ w1 with heap:=w1.heap.push (.mapIter (some mb) clock #[] clock) }) ?_ ⟨rfl,κ1,φ1,w1,a1,mb,dN,clock,g1,g2,g3,k1,k2,k3,k4,k5,rfl,rfl⟩;have hg:(getObj mb).run P w1 = .ok (.map dN clock) w1:=by simp [getObj,Sem.run,k3]
      simp only [execOp,hR,hv,Instr.range,Sem.run_bind,aF hu,Result.andThen_ok,Sem.run_pure,hg];rfl
     obtain ⟨e,a2,w2,⟨rfl,κ1,φ1,w1,a1,mb,dN,clock,f1,f2,f3,k1,k2,k3,k4,k5,rfl,rfl⟩,harr⟩:=wp_region (id:=r6) ZA fr (.code (.block c.ND (.loop (c.body g)))::K.map It.item) cs;have WU:=hc.lt;have hit:g.it < n:=WU g.it (by simp [ko.ws]);have hlt:mb < w1.heap.size:=iY k3
     have hκb:κ1 w1.heap.size = .kr:=by
      cases hx:κ1 w1.heap.size with
      | kr=>rfl
      | dA=>have:=f1.bnd.lt w1.heap.size (by rw [hx];simp);omega
      | own j=>have:=f1.bnd.lt w1.heap.size (by rw [hx];simp);omega
     have Yt:=Al g.ws R1 (fun d hd=>Nat.lt_of_lt_of_le (WU d hd) hn)
     have F2:av κ1 φ1 w1 (lZ n (forget g.ws R1) O1) a1:=by
      refine av.weak f1 (R':=(forget g.ws R1).fn) (fun t v hr=>?_);rw [Yt];by_cases ht:t∈g.ws
      ·simp only [ht,if_true];exact .bot _
      ·simp only [ht,if_false];exact hr
     have F3:=(F2.PG (w':={ w1 with heap:=w1.heap.push (.mapIter (some mb) clock #[] clock) }) rfl).kV (d:=g.it) hit (by show (forget g.ws R1).fn g.it = .bot;rw [Yt];simp [ko.ws]) (.pointer (some ⟨w1.heap.size,0,none⟩))
     have hfr2:Fr κ w κ1 { w1 with heap:=w1.heap.push (.mapIter (some mb) clock #[] clock) }:=by
      refine ⟨by simp only [Array.size_push];have:=f2.size;omega,fun x hx=>?_,fun x hx ho=>?_,fun x cc ty fz hx=>?_,f2.os,f2.out⟩
      ·obtain ⟨b1,b2⟩:=f2.dA x hx;exact ⟨b1,(dz (f1.bnd.lt x (by rw [b1];simp))).trans b2⟩
      ·obtain ⟨b1,b2⟩:=f2.kr x hx ho;exact ⟨b1,(dz (Nat.lt_of_lt_of_le hx f2.size)).trans b2⟩
      ·obtain ⟨c',tL,b1,b2⟩:=f2.wu x cc ty fz hx;exact ⟨c',tL,(dz (iY b1)).trans b1,b2⟩
     have hborn:∀x∈dN.toList,x.born < clock:=fun x hx=>by
      obtain ⟨j,hj⟩:=List.mem_iff_getElem?.1 hx;have hj' : dN[j]? = some x:=by simpa using hj
      have hjl:j < es.length:=by have:=(Array.getElem?_eq_some_iff.1 hj').1;have:=k4.1;omega
      exact (k5 j es[j] x (by simp [hjl]) hj').2.2
     have hkeys:∀x∈dN.toList,∃k:Int,x.key = .int .i64 k∧k≤p:=fun x hx=>by
      obtain ⟨j,hj⟩:=List.mem_iff_getElem?.1 hx;have hj' : dN[j]? = some x:=by simpa using hj
      have hjl:j < es.length:=by have:=(Array.getElem?_eq_some_iff.1 hj').1;have:=k4.1;omega
      have hd:=(k5 j es[j] x (by simp [hjl]) hj').1;have hle:=List.all_eq_true.1 hk es[j] (by simp);split at hle
      ·rename_i kq hq;rw [hq] at hd;generalize x.key=kv at hd ⊢;cases hd;exact ⟨kq,rfl,by simpa using hle⟩
      ·cases hle
     have Cy:=hc.Zw
     obtain ⟨e',a',w',κ',φ',s',q1,q2,q3,q4,q5,q6⟩:=PE (P:=P) (m:=m) hc (K:=K) (s:=lZ n (forget g.ws R1) O1) rfl (fun d hd _=>by show (forget g.ws R1).fn d = .bot;rw [Yt];simp [hd]) (p:=p)
      (by show (forget g.ws R1).fn g.pg=_;rw [Yt];simp [Cy,hpg]) W (κ0:=κ) (w0:=w) (φ0:=φ) (O0:=O.fn) (b:=w1.heap.size) (mb:=mb) (since:=clock) (clock:=clock) (dN:=dN) f2.size hborn k4.2 hkeys (by omega)
      _ κ1 φ1 _ _ #[] clock rfl F3 hfr2 (f3.m m) hκb (aO _ _) (Nat.le_refl _) (by show (w1.heap.push _)[mb]? = _;rw [dz hlt];exact k3) (Nat.le_refl _) (iJ (by rw [f1.n];rfl) hit) fr cs
     refine ⟨e',a',w',κ',φ',s',q1,q2,q3,q4,q5,q6.of_steps ?_⟩;exact Steps.trans (.one step_seq) (Steps.trans harr (Steps.trans (.one step_block) (.one step_loop)))
  ·cases h3
 ·cases h3
structure qg where
 r6:Nat
 oM:Array Oper
 pre:List Oper
 mx:Nat
 t:TypeId
 c:rP
 g:ko
structure uT (P:Program) (n:Nat) (q:qg):Prop where
 h6:∃oR,q.oM.toList=q.pre++[oR]∧oR.op = .range q.t (.tmp q.mx)∧oR.dst=some q.g.it∧oR.guard=none
 hg:cO n q.oM=true
 hu:∃k v,P.underlying q.t=some (.map k v)
 hc:RgOk q.c q.g n
noncomputable def QF (cf:dK) (q:qg):List (Nat×VK)→VK→VK:=fun _ kk R O nx=>
 FC cf (fun _=>false) Zz q.oM q.pre R O nx (fun R1 O1 y8=>match R1.fn q.mx,R1.fn q.g.pg with
  | .map i,.d (.int .i64 p)=>match O1.fn i with
    | some (.map es)=>bif Gb p es then kk (forget q.g.ws R1) O1 y8 else none
    | _=>none
  | _,_=>none)
theorem Gc {cf:dK} (hcf:jh P cf) {n m:Nat} (hn:n≤512) {q:qg} (hq:uT P n q) {fin:List (Nat×List RV)→VK} {K:List It} {e:List (Nat×VK)} {kk:VK} (hK:Good P n m fin K kk) :
 Good P n m fin (.code (.seq (.region q.r6 q.oM false) (.block q.c.ND (.loop (q.c.body q.g))))::K) (QF cf q e kk):=by
 intro R O nx a h;obtain ⟨oR,h1,h2,h3,h4⟩:=hq.h6;obtain ⟨k,v,hu⟩:=hq.hu;exact WT hcf hn h1 hq.hg h2 h3 h4 hu hq.hc hK h
def pieces:Code→List (Code×Code)
 | .seq x y=>(x,y)::(pieces x++pieces y)
 | .cond _ x y=>pieces x++pieces y
 | .block _ x=>pieces x
 | .loop x=>pieces x
 | .scope x=>pieces x
 | _=>[]
theorem Sub.pieces {b c:Code} (h:Sub b c):∀z∈Am.pieces c,z∈Am.pieces b:=by
 induction h with
 | refl=>exact fun z hz=>hz
 | WQ _ ih=>exact fun z hz=>ih z (by simp only [Am.pieces,List.mem_cons,List.mem_append];exact .inr (.inl hz))
 | WR _ ih=>exact fun z hz=>ih z (by simp only [Am.pieces,List.mem_cons,List.mem_append];exact .inr (.inr hz))
 | QD _ ih=>exact fun z hz=>ih z (by simp only [Am.pieces,List.mem_append];exact .inl hz)
 | QE _ ih=>exact fun z hz=>ih z (by simp only [Am.pieces,List.mem_append];exact .inr hz)
 | block _ ih=>exact fun z hz=>ih z hz
 | loop _ ih=>exact fun z hz=>ih z hz
 | scope _ ih=>exact fun z hz=>ih z hz
def En (r:Nat):Code→Bool
 | .region i _ _=>Nat.beq i r
 | _=>false
noncomputable def Gd (cf:dK) (q:qg):ze:=fun x _=>bif En q.r6 x then some (QF cf q) else none
theorem Jk {cf:dK} (hcf:jh P cf) {n m:Nat} (hn:n≤512) {q:qg} (hq:uT P n q) {fin:List (Nat×List RV)→VK} {body:Code}
 (hp:(pieces body).filter (fun z=>En q.r6 z.1)=[(.region q.r6 q.oM false,.block q.c.ND (.loop (q.c.body q.g)))]):uR P n m fin body (Gd cf q):=by
 intro x y f hf hS k e kk hk _;unfold Gd at hf;cases hr:En q.r6 x with
 | false=>rw [hr] at hf;cases hf
 | true=>
   rw [hr] at hf;simp only [cond_true,Option.some.injEq] at hf;subst hf
   have hm:(x,y)∈(pieces body).filter (fun z=>En q.r6 z.1):=by
    rw [List.mem_filter];exact ⟨hS.pieces (x,y) (by simp [Am.pieces]),hr⟩
   rw [hp] at hm;simp only [List.mem_cons,List.mem_nil_iff,or_false,Prod.mk.injEq] at hm;obtain ⟨rfl,rfl⟩:=hm;exact Gc hcf hn hq hk
end Go.Am
namespace Go.Proofs.YtjoefbioobdinaaGreatDoor
open Go.RowKit Am
set_option maxRecDepth 1000000
noncomputable def yF:Code:=((Tryz.prog.funcs[351]?).bind (·.body)).getD .skip
def aX (r:Nat):Code→Option (Array Oper)
 | .region i ops _=>bif Nat.beq i r then some ops else none
 | .seq x y=>match aX r x with
   | some a=>some a
   | none=>aX r y
 | .cond _ x y=>match aX r x with
   | some a=>some a
   | none=>aX r y
 | .block _ x=>aX r x
 | .loop x=>aX r x
 | .scope x=>aX r x
 | _=>none
def oN (t:Nat):Code→Option Code
 | .cond (.tmp u) x y=>bif Nat.beq u t then some x else match oN t x with
   | some a=>some a
   | none=>oN t y
 | .seq x y=>match oN t x with
   | some a=>some a
   | none=>oN t y
 | .block _ x=>oN t x
 | .loop x=>oN t x
 | .scope x=>oN t x
 | _=>none
noncomputable def Eo (r:Nat):Array Oper:=(aX r yF).getD #[]
noncomputable def qx (r k:Nat):Oper:=((Eo r)[k]?).getD default
noncomputable def rzC:rP:=⟨7,Eo 7,0,1,8,Eo 8,9,Eo 9,(oN 33 yF).getD .skip⟩
def rzG:ko:=⟨26,27,28,29,30,6,31,32,33,1⟩
noncomputable def SB:qg:=⟨6,Eo 6,[qx 6 0,qx 6 1,qx 6 2,qx 6 3,qx 6 4,qx 6 5,qx 6 6],25,413,rzC,rzG⟩
theorem WV:uT Tryz.prog 71 SB where
 h6:=⟨qx 6 7,by kernel_rfl,by kernel_rfl,by kernel_rfl,by kernel_rfl⟩
 hg:=by kernel_rfl
 hu:=⟨3,9,by kernel_rfl⟩
 hc:=
  { o7:=⟨qx 7 0,qx 7 1,by kernel_rfl,by kernel_rfl,by kernel_rfl,by kernel_rfl,by kernel_rfl,by kernel_rfl,by kernel_rfl⟩
    o8:=⟨qx 8 0,qx 8 1,qx 8 2,by kernel_rfl,by kernel_rfl,by kernel_rfl,by kernel_rfl,by kernel_rfl,by kernel_rfl,by kernel_rfl,by kernel_rfl,by kernel_rfl,by kernel_rfl⟩
    o9:=⟨qx 9 0,qx 9 1,qx 9 2,3,3,by kernel_rfl,by kernel_rfl,by kernel_rfl,by kernel_rfl,by kernel_rfl,by kernel_rfl,by kernel_rfl,by kernel_rfl,by kernel_rfl,by kernel_rfl⟩
    lt:=by decide
    Zw:=by decide
    nodup:=by decide }
theorem MR:(pieces yF).filter (fun z=>En 6 z.1)=[(.region SB.r6 SB.oM false,.block SB.c.ND (.loop (SB.c.body SB.g)))]:=by kernel_rfl
theorem PI:(Tryz.prog.funcs[351]?).map (fun f=>Nat.beq f.ntmps 71)=some true:=by kernel_rfl
noncomputable def fnT:Nat→Option Func:=fun g=>Tryz.prog.funcs[g]?
theorem gM:Tryz.prog.follows .mixedOrders=true:=by kernel_rfl
end Go.Proofs.YtjoefbioobdinaaGreatDoor
namespace Go.Am
set_option linter.unusedSectionVars false
variable {P:Program} [Gl]
structure Row where
 g:Nat
 args:List RV
 objs:List au
 r:RV
 os:List au
noncomputable def hx (n x:Nat):List UInt8:=
 Nat.rec (motive:=fun _=>Nat→List UInt8) (fun _=>[]) (fun _ ih x=>UInt8.ofNat (Nat.mod x 256)::Nat.rec (motive:=fun _=>List UInt8) (ih 0) (fun m _=>ih (Nat.succ m)) (Nat.div x 256)) n x
def Row.C (P:Program) (q:Row):Prop:=Go.Am.C P q.g q.args q.objs (fun r o=>r=q.r∧o=q.os)
noncomputable def aJ (base:tN):List Row→tN:=fun l=>List.rec (motive:=fun _=>tN) base (fun q _ ih f a o=>
 Bool.rec (motive:=fun _=>Option (RV×List au×List Bool)) (ih f a o)
  (Bool.rec (motive:=fun _=>Option (RV×List au×List Bool)) (ih f a o) (some (q.r,q.os,[])) (vC (uq 8) q.args a&&vC EZ q.objs o)) (Nat.beq q.g f)) l
theorem ay {base:tN} {l:List Row} {q:Row} (hl:aW P (aJ base l)) (hq:q.C P):aW P (aJ base (q::l)):=by
 intro f a o r o' c h hc
 have h:Bool.rec (motive:=fun _=>Option (RV×List au×List Bool)) (aJ base l f a o)
  (Bool.rec (motive:=fun _=>Option (RV×List au×List Bool)) (aJ base l f a o) (some (q.r,q.os,[])) (vC (uq 8) q.args a&&vC EZ q.objs o)) (Nat.beq q.g f)=some (r,o',c):=h
 cases h1:Nat.beq q.g f with
 | false=>rw [h1] at h;exact hl f a o r o' c h hc
 | true=>
   rw [h1] at h;cases h2:(vC (uq 8) q.args a&&vC EZ q.objs o) with
   | false=>rw [h2] at h;exact hl f a o r o' c h hc
   | true=>
     rw [h2] at h;simp only [Option.some.injEq,Prod.mk.injEq] at h;obtain ⟨rfl,rfl,rfl⟩:=h;simp only [Bool.and_eq_true] at h2;have e1:=bQ h1;have e2:=fQ (pI 8) _ _ h2.1;have e3:=fQ uw _ _ h2.2;subst e1;subst e2;subst e3;exact hq
def MS (x:Option (RV×List au×List Bool)) (r:RV) (os:List au):Bool:=
 match x with
 | some (r2,o2,[])=>uq 8 r2 r&&vC EZ o2 os
 | _=>false
theorem Gf {x:Option (RV×List au×List Bool)} {r:RV} {os:List au} (h:MS x r os=true):x=some (r,os,[]):=by
 unfold MS at h;split at h
 ·simp only [Bool.and_eq_true] at h;rw [pI 8 _ _ h.1,fQ uw _ _ h.2]
 ·cases h
def MU (mask g:Nat):Bool:=Nat.beq (Nat.mod (Nat.shiftRight mask g) 2) 1
def di (n:Nat):RV:=.d (.int .i64 (Int.ofNat n))
def ds (s:List UInt8):RV:=.d (.str s)
def db (b:Bool):RV:=.d (.bool b)
def vi (n:Nat):DV:=.int .i64 (Int.ofNat n)
end Go.Am
namespace Go.Proofs.YtjoefbioobdinaaGreatDoor
open Go.RowKit Am
set_option maxRecDepth 1000000
noncomputable def ZB (K:tN):dK:={ E:=Env.of Tryz.prog,K:=K,cK:=fun _=>true,dP:=fun f=>dP Tryz.prog f,vm:=true,diff:=true }
noncomputable def Gg (K:tN):Nat→ze:=fun g=>bif Nat.beq g 351 then Gd (ZB K) SB else fun _ _=>none
theorem MV {K:tN} (h:aW Tryz.prog K):jh Tryz.prog (ZB K):=⟨rfl,h,fun _ h=>h⟩
theorem Jl {K:tN} (h:aW Tryz.prog K):∀g f body,fnT g=some f→f.body=some body→∀fin,uR Tryz.prog f.ntmps 1048576 fin body (Gg K g):=by
 intro g f body hf hb fin;unfold Gg;cases hg:Nat.beq g 351 with
 | false=>intro x y f hx;cases hx
 | true=>
   have:=bQ hg;subst this
   have hf' : Tryz.prog.funcs[351]? = some f:=hf
   have hn:f.ntmps=71:=by
    have:=PI
    rw [hf'] at this;exact bQ (by simpa using this)
   have hbd:body=yF:=by
    unfold yF;rw [hf'];simp [hb]
   subst hbd;rw [hn];exact Jk (MV h) (by decide) WV MR
noncomputable def bM (K:tN) (mask:Nat) (q:Row):Bool:=MS (IZ (BU (F9 (Gg K) fnT (ZB K) (MU mask) 100000 60)) q.g q.args q.objs) q.r q.os
theorem bO {K:tN} (hK:aW Tryz.prog K) {mask:Nat} {q:Row} (h:bM K mask q=true):q.C Tryz.prog:=
 Ga (MV hK) gM (Jl hK) (fun _ _ h=>h) (MU mask) 100000 60 (Gf h)
end Go.Proofs.YtjoefbioobdinaaGreatDoor
