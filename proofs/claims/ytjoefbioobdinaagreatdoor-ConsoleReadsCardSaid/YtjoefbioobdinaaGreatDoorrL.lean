/-
  The laws of lines: ConsoleReads and ConsoleBack, as runs.
-/
import Derived.Test.YtjoefbioobdinaaGreatDoorrm
import Derived.Test.YtjoefbioobdinaaGreatDoorrn
import Derived.Test.YtjoefbioobdinaaGreatDoorrGe
namespace Go.Proofs.YtjoefbioobdinaaGreatDoor
open Go.RowKit Am
open Go.aQ hiding cut intOf take split
set_option maxRecDepth 100000
set_option linter.unusedVariables false
set_option linter.unusedSimpArgs false
noncomputable abbrev crC:Code:=eG Tryz.f3
noncomputable def tW1:List (Nat×kZ):=[(6,e0 (some (.bool true,[]))),(7,wK rdE),(8,wK Ua),(9,e2 smE)]
theorem Wo:eZ Tryz.prog tW1:=.cons Wn (.cons TA (.cons Qw (.cons Uc .nil)))
set_option maxHeartbeats 400000 in
theorem QH (s:W):Go.Am.C Tryz.prog 3 [.d (.str s)] [] (fun r o=>r = .d (.bool true)∧o=[]):=by
 have ok:=aH Wo;refine bn (fn:=Tryz.f3) (body:=crC) true (by kernel_rfl) (by kernel_rfl) (by kernel_rfl) ?_;cases f0:decide ((8192:Int) < (s.length:Int)) with
 | true=>
   exact WK.fin ok 1000 0 [(11,aj true)] [] [(aj (decide (8192 < ((List.length s:Nat):Int))),aj true)] rfl (by kernel_rfl:au (bq tW1) true _ 1000 0 _ _ (dz 30 [.d (.str s)] [])=some (aj true,[],_,_)) trivial ⟨(by first | exact ah f0 | exact .of_eq (congrArg RV.d hact) | exact .of_eq (congrArg RV.d RF) | exact .of_eq (congrArg (fun z=>RV.d (.int .i64 z)) he) | exact .of_eq (congrArg (fun z=>RV.d (.int .i64 z)) heR) | exact ah (beq_self_eq_true _) | exact ah gs),trivial⟩ ⟨rfl,rfl⟩
 | false=>
   have hl:s.length≤8192:=by have:=of_decide_eq_false f0;omega
   have c1:decide (s.length≤999999)=true:=decide_eq_true (by omega);have hkl:=Hy s;obtain ⟨b,e,hbe⟩:∃b e,dL s=(b,e):=⟨_,_,rfl⟩;rw [hbe] at hkl;have hR:=EZ s;rw [hbe] at hR;have he:(dL s).2=e:=by rw [hbe]
   have heR:(cO s).2=e:=by rw [←hR]
   have hb:(dL s).1=b:=by rw [hbe]
   have hbR:(cO s).1=b:=by rw [←hR]
   obtain ⟨kd,nd,n,a,x,tx,kl⟩:=b;obtain ⟨kp,hkp⟩:∃kp,keepD kl=kp:=⟨_,rfl⟩;have hact:GR (dL s).1=ni kd nd n a x tx kp:=by rw [hb];unfold GR;simp only [hkp]
   have RF:GR (cO s).1=ni kd nd n a x tx kp:=by rw [hbR];unfold GR;simp only [hkp]
   have c2:sN kp=true:=by rw [←hkp];exact Hw (by simp only at hkl;omega)
   have gs:Kh (ni kd nd n a x tx kp) (ni kd nd n a x tx kp)=true:=(NQ _ _ _ _ _ _ _ _ _ _ _ _ _ _).2 (by rw [same_eq]);exact WK.fin ok 1000 0 [(11,aj false),(15,RV.d (DV.agg [aI kd,aI nd,aI n,aI a,aU x,DV.str tx,kp])),(16,aA e),(20,RV.d (DV.agg [aI kd,aI nd,aI n,aI a,aU x,DV.str tx,kp])),(21,aA e),(24,aj true),(28,aj true)] [decide (List.length s≤999999),decide (List.length s≤999999),true,true,Go.Proofs.YtjoefbioobdinaaGreatDoor.sN kp,Go.Proofs.YtjoefbioobdinaaGreatDoor.sN kp] [(aj (decide (8192 < ((List.length s:Nat):Int))),aj false),(RV.d (DV.agg [aI (Go.aQ.dL s).fst.1,aI (Go.aQ.dL s).fst.2,aI (Go.aQ.dL s).fst.3,aI (Go.aQ.dL s).fst.4,aU (Go.aQ.dL s).fst.5,DV.str (Go.aQ.dL s).fst.6,Go.Proofs.YtjoefbioobdinaaGreatDoor.keepD (Go.aQ.dL s).fst.keep]),RV.d (DV.agg [aI kd,aI nd,aI n,aI a,aU x,DV.str tx,kp])),(aA (Go.aQ.dL s).2,aA e),(RV.d (DV.agg [aI (Go.aQ.cO s).fst.1,aI (Go.aQ.cO s).fst.2,aI (Go.aQ.cO s).fst.3,aI (Go.aQ.cO s).fst.4,aU (Go.aQ.cO s).fst.5,DV.str (Go.aQ.cO s).fst.6,Go.Proofs.YtjoefbioobdinaaGreatDoor.keepD (Go.aQ.cO s).fst.keep]),RV.d (DV.agg [aI kd,aI nd,aI n,aI a,aU x,DV.str tx,kp])),(aA (Go.aQ.cO s).2,aA e),(aj (e==e),aj true),(aj (Go.Proofs.YtjoefbioobdinaaGreatDoor.Kh (DV.agg [aI kd,aI nd,aI n,aI a,aU x,DV.str tx,kp]) (DV.agg [aI kd,aI nd,aI n,aI a,aU x,DV.str tx,kp])),aj true)] rfl (by kernel_rfl:au (bq tW1) true _ 1000 0 _ _ (dz 30 [.d (.str s)] [])=some (aj true,[],_,_)) (by refine ⟨?_,?_,?_,?_,?_,?_,trivial⟩<;>(first | rfl | exact c1 | exact c2)) (by refine ⟨?_,?_,?_,?_,?_,?_,?_,trivial⟩<;>(first | exact ah f0 | exact .of_eq (congrArg RV.d hact) | exact .of_eq (congrArg RV.d RF) | exact .of_eq (congrArg (fun z=>RV.d (.int .i64 z)) he) | exact .of_eq (congrArg (fun z=>RV.d (.int .i64 z)) heR) | exact ah (beq_self_eq_true _) | exact ah gs)) ⟨rfl,rfl⟩
end Go.Proofs.YtjoefbioobdinaaGreatDoor
