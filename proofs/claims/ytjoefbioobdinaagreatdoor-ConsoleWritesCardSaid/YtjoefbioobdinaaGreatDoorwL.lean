/-
  Texts that the claim leans on: LA, LB.
-/
import Derived.Test.YtjoefbioobdinaaGreatDoorwl
import Derived.Test.YtjoefbioobdinaaGreatDoorwm
import Derived.Test.YtjoefbioobdinaaGreatDoorwn
import Derived.Test.YtjoefbioobdinaaGreatDoorwGe
namespace Go.Proofs.YtjoefbioobdinaaGreatDoor
open Go.RowKit Am
open Go.ay hiding cut intOf take split
set_option maxRecDepth 100000
set_option linter.unusedVariables false
set_option linter.unusedSimpArgs false
def txD:DV→W
 | .agg [.int .i64 _,.int .i64 _,.int .i64 _,.int .i64 _,.int .u8 _,.str tx,_]=>tx
 | _=>[]
def VW:DV→Bool
 | .aC 1 _ _=>true
 | _=>false
def Oa (d:DV):Bool:=decide ((8192:Int) < ((txD d).length:Int))||decide ((4096:Int) < ((mX (Gu d)).length:Int))
def grE:DV→Option (DV×List Bool):=fun d=>some (.bool (Oa d),[isA d,VW (Gu d)])
set_option maxHeartbeats 400000 in
theorem aaZ (kd nd n a x:Int) (tx:W) (ks:List DV) (fl:Bool):Go.Am.C Tryz.prog 10 [.d (bR kd nd n a x tx (.aC 1 ks fl))] [] (fun r o=>r = .d (.bool (Oa (bR kd nd n a x tx (.aC 1 ks fl))))∧o=[]):=by
 have ok:=aJ (l:=[]) .nil;refine aH (fn:=Tryz.f10) (body:=grC) true (by kernel_rfl) (by kernel_rfl) (by kernel_rfl) ?_;have hb:Oa (bR kd nd n a x tx (.aC 1 ks fl))=(decide ((8192:Int) < (tx.length:Int))||decide ((4096:Int) < ((ks.map IC).length:Int))):=rfl;rw [List.length_map] at hb;cases f0:decide ((8192:Int) < (tx.length:Int)) with
 | true=>
   have hq:Oa (bR kd nd n a x tx (.aC 1 ks fl))=true:=by rw [hb,f0];rfl
   rw [hq];exact WK.fin ok 1000 0 [(6,aj true)] [] [(aj (decide (8192 < ((List.length tx:Nat):Int))),aj true)] rfl (by kernel_rfl:au (bG []) true _ 1000 0 _ _ (bV 13 [.d (bR kd nd n a x tx (.aC 1 ks fl))] [])=some (aj true,[],_,_)) trivial ⟨(by first | exact ah f0 | exact ah f1),trivial⟩ ⟨rfl,rfl⟩
 | false=>
   obtain ⟨b,f1⟩:∃b,decide ((4096:Int) < (ks.length:Int))=b:=⟨_,rfl⟩;have hq:Oa (bR kd nd n a x tx (.aC 1 ks fl))=b:=by rw [hb,f0,f1];rfl
   rw [hq];exact WK.fin ok 1000 0 [(6,aj false),(11,aj b)] [] [(aj (decide (8192 < ((List.length tx:Nat):Int))),aj false),(aj (decide (4096 < (ks.length:Int))),aj b)] rfl (by kernel_rfl:au (bG []) true _ 1000 0 _ _ (bV 13 [.d (bR kd nd n a x tx (.aC 1 ks fl))] [])=some (aj b,[],_,_)) trivial (by refine ⟨?_,?_,trivial⟩<;>(first | exact ah f0 | exact ah f1)) ⟨rfl,rfl⟩
theorem Yw {kd nd n a x:Int} {tx:W} {ks:List DV} {fl:Bool} (h:Oa (bR kd nd n a x tx (.aC 1 ks fl))=false):tx.length≤8192∧ks.length≤4096:=by
 have hb:Oa (bR kd nd n a x tx (.aC 1 ks fl))=(decide ((8192:Int) < (tx.length:Int))||decide ((4096:Int) < ((ks.map IC).length:Int))):=rfl;rw [hb,List.length_map,Bool.or_eq_false_iff] at h;have h1:=of_decide_eq_false h.1;have h2:=of_decide_eq_false h.2;omega
theorem ES {d:DV} (h:VW d=true):∃ks fl,d = .aC 1 ks fl:=by
 unfold VW at h;split at h
 ·exact ⟨_,_,rfl⟩
 ·cases h
theorem Vs:cK Tryz.prog 10 (e1 grE):=by
 refine yx fun d y c hg hc=>?_;unfold grE at hg;simp only [Option.some.injEq,Prod.mk.injEq] at hg;obtain ⟨rfl,rfl⟩:=hg;obtain ⟨kd,nd,n,a,z,tx,kp,rfl⟩:=nN (hc (isA d) (by simp));obtain ⟨ks,fl,rfl⟩:=ES (hc (VW (Gu (bR kd nd n a z tx kp))) (by simp));exact aaZ kd nd n a z tx ks fl
theorem Qj {a:ay.Act} (h1:gK a.node) (h2:gK a.n) (h3:gK a.at_) (h4:0≤a.x∧a.x≤255) (h5:a.text.length≤500000) (h6:a.keep.length≤500000):zF a=true:=by
 unfold zF;simp only [Bool.and_eq_true,decide_eq_true_eq];exact ⟨h1,h2,h3,h4,h5,h6⟩
noncomputable abbrev cwC:Code:=dY Tryz.f4
def wB (d:DV):W×Int:=aM (EK d)
def Nz:DV→Option (RV×List Bool):=fun d=>some (.bn [.d (.str (wB d).1),.d (.int .i64 (wB d).2)],[isA d,VW (Gu d),gQ (Gu d),wO d])
noncomputable def tW2:List (Nat×kK):=[(6,e0 (some (.bool true,[]))),(10,e1 grE),(11,Ay Na),(12,Ay Nz)]
theorem abb (kd nd n a x:Int) (tx:W) (ks:List DV) (fl:Bool) (h1:gK nd) (h2:gK n) (h3:gK a) (h4:0≤x∧x≤255) (h5:tx.length≤500000) (h6:ks.length≤500000) (hb:ks.all jI=true):Go.Am.C Tryz.prog 12 [.d (bR kd nd n a x tx (.aC 1 ks fl))] [] (AV (aM (cO kd nd n a x tx ks fl))):=by
 by_cases h:kd < 1∨kd > 14
 ·exact SV kd nd n a x tx ks fl h
 ·obtain ⟨k,rfl⟩:=Int.eq_ofNat_of_zero_le (show 0≤kd by omega);have h:1≤k∧k≤14:=by omega
  match k,h with
  | 1,_=>exact ZY nd n a x tx ks fl h1 h2 h3 h4 h5 h6 hb
  | 2,_=>exact Z0 nd n a x tx ks fl h1 h2 h3 h4 h5 h6 hb
  | 3,_=>exact Z4 nd n a x tx ks fl h1 h2 h3 h4 h5 h6 hb
  | 4,_=>exact Z5 nd n a x tx ks fl h1 h2 h3 h4 h5 h6 hb
  | 5,_=>exact Z6 nd n a x tx ks fl h1 h2 h3 h4 h5 h6 hb
  | 6,_=>exact Z7 nd n a x tx ks fl h1 h2 h3 h4 h5 h6 hb
  | 7,_=>
    by_cases q:1 < x
    ·exact Xn nd n a x tx ks fl h1 h2 h3 q h5 h6 hb
    ·by_cases q0:x=0
     ·subst q0;exact Xo nd n a tx ks fl h1 h2 h3 h5 h6 hb
     ·obtain rfl:x=1:=by omega
      exact Xp nd n a tx ks fl h1 h2 h3 h5 h6 hb
  | 8,_=>exact Z8 nd n a x tx ks fl h1 h2 h3 h4 h5 h6 hb
  | 9,_=>
    cases f:decide ((0:Int) < (ks.length:Int)) with
    | true=>exact Z9 nd n a x tx ks fl h1 h2 h3 h4 h5 h6 hb f
    | false=>exact Xq nd n a x tx ks fl h1 h2 h3 h4 h5 h6 hb f
  | 10,_=>exact Xi nd n a x tx ks fl h1 h2 h3 h4 h5 h6 hb
  | 11,_=>exact Xl nd n a x tx ks fl h1 h2 h3 h4 h5 h6 hb
  | 12,_=>exact Xj nd n a x tx ks fl h1 h2 h3 h4 h5 h6 hb
  | 13,_=>exact Xm nd n a x tx ks fl h1 h2 h3 h4 h5 h6 hb
  | 14,_=>exact Xk nd n a x tx ks fl h1 h2 h3 h4 h5 h6 hb
theorem Vt:cK Tryz.prog 12 (Ay Nz):=by
 refine oo fun d y c hg hc=>?_;unfold Nz at hg;simp only [Option.some.injEq,Prod.mk.injEq] at hg;obtain ⟨rfl,rfl⟩:=hg;obtain ⟨kd,nd,n,a,z,tx,kp,rfl⟩:=nN (hc (isA d) (by simp));obtain ⟨ks,fl,rfl⟩:=ES (hc (VW (Gu (bR kd nd n a z tx kp))) (by simp));have hk:=hc (gQ (Gu (bR kd nd n a z tx (.aC 1 ks fl)))) (by simp);have hf:=hc (wO (bR kd nd n a z tx (.aC 1 ks fl))) (by simp);obtain ⟨f1,f2,f3,f4,f5,f6⟩:=yV (show zF (cO kd nd n a z tx ks fl)=true from hf)
 have f6' : (ks.map IC).length≤500000:=f6;rw [List.length_map] at f6';have hk' : (ks.all jI&&decide (ks.length≤1000000))=true:=hk;rw [Bool.and_eq_true] at hk';exact abb kd nd n a z tx ks fl f1 f2 f3 f4 f5 f6' hk'.1
theorem Vu:eD Tryz.prog tW2:=.cons Vr (.cons Vs (.cons Nb (.cons Vt .nil)))
set_option maxHeartbeats 400000 in
theorem NA (kd nd n a x:Int) (tx:W) (ks:List DV) (fl:Bool) (h1:gK nd) (h2:gK n) (h3:gK a) (h4:0≤x∧x≤255) (hb:ks.all jI=true):Go.Am.C Tryz.prog 4 [.d (bR kd nd n a x tx (.aC 1 ks fl))] [] (fun r o=>r = .d (.bool true)∧o=[]):=by
 have ok:=aJ Vu;refine aH (fn:=Tryz.f4) (body:=cwC) true (by kernel_rfl) (by kernel_rfl) (by kernel_rfl) ?_;cases fg:Oa (bR kd nd n a x tx (.aC 1 ks fl)) with
 | true=>
   exact WK.fin ok 1000 0 [(10,aj true)] [true,true] [(aj (Go.Proofs.YtjoefbioobdinaaGreatDoor.Oa (DV.agg [aI kd,aI nd,aI n,aI a,aU x,DV.str tx,DV.aC 1 ks fl])),aj true)] rfl (by kernel_rfl:au (bG tW2) true _ 1000 0 _ _ (bV 29 [.d (bR kd nd n a x tx (.aC 1 ks fl))] [])=some (aj true,[],_,_)) (by refine ⟨?_,?_,trivial⟩<;>(first | rfl | exact hk | exact hf)) ⟨(by first | exact ah fg | exact .of_eq (congrArg (fun w=>RV.d (.str w)) ht) | exact .of_eq (congrArg (fun z=>RV.d (.int .i64 z)) he) | exact .of_eq (congrArg (fun w=>RV.d (.str w)) htR) | exact .of_eq (congrArg (fun z=>RV.d (.int .i64 z)) heR) | exact ah (beq_self_eq_true _)),trivial⟩ ⟨rfl,rfl⟩
 | false=>
   obtain ⟨g1,g2⟩:=Yw fg
   have hk:gQ (.aC 1 ks fl)=true:=by
    show (ks.all jI&&decide (ks.length≤1000000))=true
    rw [hb,decide_eq_true (show ks.length≤1000000 by omega)];rfl
   have hfB:zF (kV kd nd n a x tx (.aC 1 ks fl))=true:=Qj h1 h2 h3 h4 (show tx.length≤500000 by omega) (by show (ks.map IC).length≤500000;rw [List.length_map];omega);have hf:wO (bR kd nd n a x tx (.aC 1 ks fl))=true:=hfB;have hPR:=EB (a:=kV kd nd n a x tx (.aC 1 ks fl)) ⟨h1,h2,h3,h4⟩;obtain ⟨s,e,hL⟩:∃s e,pK (kV kd nd n a x tx (.aC 1 ks fl))=(s,e):=⟨_,_,rfl⟩;rw [hL] at hPR;have ht:(wo (bR kd nd n a x tx (.aC 1 ks fl))).1=s:=by unfold wo;rw [um,hL]
   have he:(wo (bR kd nd n a x tx (.aC 1 ks fl))).2=e:=by unfold wo;rw [um,hL]
   have htR:(wB (bR kd nd n a x tx (.aC 1 ks fl))).1=s:=by unfold wB;rw [um,←hPR]
   have heR:(wB (bR kd nd n a x tx (.aC 1 ks fl))).2=e:=by unfold wB;rw [um,←hPR]
   exact WK.fin ok 1000 0 [(10,aj false),(14,aR s),(15,aK e),(19,aR s),(20,aK e),(23,aj true),(27,aj true)] [true,true,true,Go.Proofs.YtjoefbioobdinaaGreatDoor.gQ (DV.aC 1 ks fl),Go.Proofs.YtjoefbioobdinaaGreatDoor.wO (DV.agg [aI kd,aI nd,aI n,aI a,aU x,DV.str tx,DV.aC 1 ks fl]),true,true,Go.Proofs.YtjoefbioobdinaaGreatDoor.gQ (DV.aC 1 ks fl),Go.Proofs.YtjoefbioobdinaaGreatDoor.wO (DV.agg [aI kd,aI nd,aI n,aI a,aU x,DV.str tx,DV.aC 1 ks fl])] [(aj (Go.Proofs.YtjoefbioobdinaaGreatDoor.Oa (DV.agg [aI kd,aI nd,aI n,aI a,aU x,DV.str tx,DV.aC 1 ks fl])),aj false),(aR (Go.Proofs.YtjoefbioobdinaaGreatDoor.wo (DV.agg [aI kd,aI nd,aI n,aI a,aU x,DV.str tx,DV.aC (1) ks fl])).1,aR s),(aK (Go.Proofs.YtjoefbioobdinaaGreatDoor.wo (DV.agg [aI kd,aI nd,aI n,aI a,aU x,DV.str tx,DV.aC (1) ks fl])).2,aK e),(aR (Go.Proofs.YtjoefbioobdinaaGreatDoor.wB (DV.agg [aI kd,aI nd,aI n,aI a,aU x,DV.str tx,DV.aC (1) ks fl])).1,aR s),(aK (Go.Proofs.YtjoefbioobdinaaGreatDoor.wB (DV.agg [aI kd,aI nd,aI n,aI a,aU x,DV.str tx,DV.aC (1) ks fl])).2,aK e),(aj (s==s),aj true),(aj (e==e),aj true)] rfl (by kernel_rfl:au (bG tW2) true _ 1000 0 _ _ (bV 29 [.d (bR kd nd n a x tx (.aC 1 ks fl))] [])=some (aj true,[],_,_)) (by refine ⟨?_,?_,?_,?_,?_,?_,?_,?_,?_,trivial⟩<;>(first | rfl | exact hk | exact hf)) (by refine ⟨?_,?_,?_,?_,?_,?_,?_,trivial⟩<;>(first | exact ah fg | exact .of_eq (congrArg (fun w=>RV.d (.str w)) ht) | exact .of_eq (congrArg (fun z=>RV.d (.int .i64 z)) he) | exact .of_eq (congrArg (fun w=>RV.d (.str w)) htR) | exact .of_eq (congrArg (fun z=>RV.d (.int .i64 z)) heR) | exact ah (beq_self_eq_true _))) ⟨rfl,rfl⟩
end Go.Proofs.YtjoefbioobdinaaGreatDoor
