/-
  Texts that the claim leans on: K7, K8, ConTx2, K9, KA, Bd, KB, KD, KG, KH.
-/
import Derived.Test.YtjoefbioobdinaaGreatDoorProg
import Derived.Test.YtjoefbioobdinaaGreatDoorwh
import Derived.Test.YtjoefbioobdinaaGreatDoorwi
import Derived.Lib.DecodeN
import Derived.Lib.Builder
import Derived.Lib.UnsafeStr
import Derived.Lib.Hide
import Derived.RegionTactic
import Derived.WalkKit
import Derived.Laws.Externs
namespace Go.Proofs.YtjoefbioobdinaaGreatDoor
open Go.RowKit Am
open Go.ay hiding cut intOf take split
set_option maxRecDepth 100000
set_option linter.unusedVariables false
set_option linter.unusedSimpArgs false
noncomputable def qP:List (Nat×kK):=(19,Gm)::(21,e2 YP)::(22,e2 RU)::(16,Ay Mj)::tr2
noncomputable abbrev mV:Code:=dY Tryz.f7
def iw (kd nd n a x:Int) (tx:W) (kp:RV):List RV:=[.d (.int .i64 kd),.d (.int .i64 nd),.d (.int .i64 n),.d (.int .i64 a),.d (.int .u8 x),.d (.str tx),kp]
def VP:List RV:=iw 0 0 0 0 0 [] (.d (.aC 0 [] true))
def ow (f r:W) (m:Bool) (kd:Int) (fs:DV) (k:Int):jN:={ n:=147,m:=0,regs:=T.mk [(2,.ptr 200 0),(4,.d (.str f)),(5,.ptr 201 0),(6,.ptr 202 0),(7,.ptr 203 0),(8,.d fs),(9,.d (.int .i64 k))],objs:=T.mk [(200,.box aT VP),(201,.box sT [.d (.str r)]),(202,.box tT [.d (.bool m)]),(203,.box aT (iw kd 0 0 0 0 [] (.d (.aC 0 [] true))))] }
def iR (r:W) (m:Bool) (e:Int) (ac:List RV) (fs:List DV) (i:Int):jN:={ n:=147,m:=0,regs:=T.mk [(2,.ptr 200 0),(5,.ptr 201 0),(6,.ptr 202 0),(7,.ptr 203 0),(12,.ptr 204 0),(13,.ptr 205 0),(14,.ptr 206 0),(15,.gI (.func 19) [] [.ptr 206 0,.ptr 205 0]),(51,.d (.aC 1 fs false)),(52,.d (.int .i64 (fs.length:Int))),(53,.d (.int .i64 i))],objs:=T.mk [(200,.box aT VP),(201,.box sT [.d (.str r)]),(202,.box tT [.d (.bool m)]),(203,.box aT ac),(204,.box eT [.d (.int .i64 e)]),(205,.box Mh [.gI (.func 17) [] [.ptr 204 0]]),(206,.box QS [.gI (.func 18) [] [.ptr 202 0,.ptr 205 0,.ptr 201 0]])] }
def EH (r:W) (m:Bool) (e:Int) (kd nd n a x:Int) (tx:W) (kp:List DV) (fs:List DV) (i:Int) (w:W) (pos:Nat) (rest:W):jN:={ n:=147,m:=0,regs:=T.mk [(2,.ptr 200 0),(5,.ptr 201 0),(6,.ptr 202 0),(7,.ptr 203 0),(12,.ptr 204 0),(13,.ptr 205 0),(14,.ptr 206 0),(15,.gI (.func 19) [] [.ptr 206 0,.ptr 205 0]),(51,.d (.aC 1 fs false)),(52,.d (.int .i64 (fs.length:Int))),(53,.d (.int .i64 i)),(115,.ptr 207 0)],objs:=T.mk [(200,.box aT VP),(201,.box sT [.d (.str r)]),(202,.box tT [.d (.bool m)]),(203,.box aT (iw kd nd n a x tx (.own 208 1))),(204,.box eT [.d (.int .i64 e)]),(205,.box Mh [.gI (.func 17) [] [.ptr 204 0]]),(206,.box QS [.gI (.func 18) [] [.ptr 202 0,.ptr 205 0,.ptr 201 0]]),(207,.sit w pos rest),(208,.arr tT 1 kp)] }
def Mt (r:W) (m:Bool) (e:Int) (kd nd n a x:Int) (tx:W) (kp:List DV) (fs:List DV) (i:Int):jN:={ n:=147,m:=0,regs:=T.mk [(2,.ptr 200 0),(5,.ptr 201 0),(6,.ptr 202 0),(7,.ptr 203 0),(12,.ptr 204 0),(13,.ptr 205 0),(14,.ptr 206 0),(15,.gI (.func 19) [] [.ptr 206 0,.ptr 205 0]),(51,.d (.aC 1 fs false)),(52,.d (.int .i64 (fs.length:Int))),(53,.d (.int .i64 i))],objs:=T.mk [(200,.box aT VP),(201,.box sT [.d (.str r)]),(202,.box tT [.d (.bool m)]),(203,.box aT (iw kd nd n a x tx (.own 207 1))),(204,.box eT [.d (.int .i64 e)]),(205,.box Mh [.gI (.func 17) [] [.ptr 204 0]]),(206,.box QS [.gI (.func 18) [] [.ptr 202 0,.ptr 205 0,.ptr 201 0]]),(207,.arr tT 1 kp)] }
theorem fu:eD Tryz.prog qP:=.cons JC (.cons LG (.cons RX (.cons Ml Ms)))
def keepD (l:List Bool):DV:=if l=[] then .aC 0 [] true else .aC 1 (l.map DV.bool) false
def Pw (a:ay.Act):DV:=.agg [.int .i64 a.kind,.int .i64 a.node,.int .i64 a.n,.int .i64 a.at_,.int .u8 a.x,.str a.text,keepD a.keep]
def WZ (p:ay.Act×Int):RV:=.bn [.d (Pw p.1),.d (.int .i64 p.2)]
abbrev gZ (s:W):cu→Prop:=yG (Tryz.f7.results.toList) 0 (fun q o=>q=WZ (bK s)∧o=[])
abbrev oK (s r:W) (m:Bool) (e kd nd n a x:Int) (tx:W) (fs:List DV) (i:Nat):Prop:=WK Tryz.prog 0 (aF mV 1) (iR r m e (iw kd nd n a x tx (.d (.aC 0 [] true))) fs (i:Int)).den (gZ s)
theorem fA {fs:List DV} {i:Nat} {f:Int} (h:fs[i]? = some (.int .i64 f)):jF (.bB (fs.getD (Nat.cast (R:=Int) i).toNat DV.aG) 0) (.bB (.int .i64 f) 0):=.of_eq (by rw [Int.toNat_natCast,List.getD,h];rfl)
theorem fB {fs:List DV} {i:Nat} {d:DV} (h:fs[i]? = some d):i < fs.length:=(List.getElem?_eq_some_iff.1 h).1
set_option maxHeartbeats 2000000 in
theorem xg (s r:W) (m:Bool) (e kd nd n a x:Int) (tx:W) (fs:List DV) (i:Nat) (hi:i≤1000) (hf:fs[i]? = some (.int .i64 0)) (hr:r.length≤999999)
 (nx:oK s (gH m r) (fD m r) (oJ m r e) kd (lN m r) n a x tx fs (i+1)):oK s r m e kd nd n a x tx fs i:=by
 have ok:=aJ fu;have hl:=fB hf;have vf:=fA hf;have vs:=dn (i:=i) (by omega);have c1:decide ((0:Int)≤(Nat.cast (R:=Int) i)∧(Nat.cast (R:=Int) i) < (Nat.cast (R:=Int) fs.length))=true:=decide_eq_true (by omega);have c2:decide (r.length≤999999)=true:=decide_eq_true hr;have c3:decide (r.length≤1000000)=true:=decide_eq_true (by omega);refine WK.eF ok 1000 0 [(54,aj true),(55,RV.bB (aI (0)) 0),(138,aK ((i+1:Nat):Int))] [] [2,5,6,7,12,13,14,15,51,52,53] [decide (0≤(i:Int)∧(i:Int) < (fs.length:Int)),true,true,true,true,true,true,true,decide (List.length r≤999999)] [(aj (decide ((i:Int) < (fs.length:Int))),aj true),(RV.bB (fs.getD (i:Int).toNat DV.aG) 0,RV.bB (aI (0)) 0),(aK (IntKind.i64.wrap ((i:Int)+1)),aK ((i+1:Nat):Int))] rfl (by kernel_rfl:bq (bG qP) 1000 0 _ _ _ _ (iR r m e (iw kd nd n a x tx (.d (.aC 0 [] true))) fs (i:Int))=some (aF mV 1,iR (gH m r) (fD m r) (oJ m r e) (iw kd (lN m r) n a x tx (.d (.aC 0 [] true))) fs ((i+1:Nat):Int),_,_)) (by refine ⟨?_,?_,?_,?_,?_,?_,?_,?_,?_,trivial⟩<;>(first | rfl | exact c1 | exact c2 | exact c3)) (by refine ⟨?_,?_,?_,trivial⟩<;>(first | exact ah rfl | exact vf | exact vs | exact ah (decide_eq_true (by omega)))) ?_
 exact nx
set_option maxHeartbeats 2000000 in
theorem CW (s r:W) (m:Bool) (e kd nd n a x:Int) (tx:W) (fs:List DV) (i:Nat) (hi:i≤1000) (hf:fs[i]? = some (.int .i64 1)) (hr:r.length≤999999)
 (nx:oK s (gH m r) (fD m r) (oJ m r e) kd nd (lN m r) a x tx fs (i+1)):oK s r m e kd nd n a x tx fs i:=by
 have ok:=aJ fu;have hl:=fB hf;have vf:=fA hf;have vs:=dn (i:=i) (by omega);have c1:decide ((0:Int)≤(Nat.cast (R:=Int) i)∧(Nat.cast (R:=Int) i) < (Nat.cast (R:=Int) fs.length))=true:=decide_eq_true (by omega);have c2:decide (r.length≤999999)=true:=decide_eq_true hr;have c3:decide (r.length≤1000000)=true:=decide_eq_true (by omega);refine WK.eF ok 1000 0 [(54,aj true),(55,RV.bB (aI (1)) 0),(138,aK ((i+1:Nat):Int))] [] [2,5,6,7,12,13,14,15,51,52,53] [decide (0≤(i:Int)∧(i:Int) < (fs.length:Int)),true,true,true,true,true,true,true,decide (List.length r≤999999)] [(aj (decide ((i:Int) < (fs.length:Int))),aj true),(RV.bB (fs.getD (i:Int).toNat DV.aG) 0,RV.bB (aI (1)) 0),(aK (IntKind.i64.wrap ((i:Int)+1)),aK ((i+1:Nat):Int))] rfl (by kernel_rfl:bq (bG qP) 1000 0 _ _ _ _ (iR r m e (iw kd nd n a x tx (.d (.aC 0 [] true))) fs (i:Int))=some (aF mV 1,iR (gH m r) (fD m r) (oJ m r e) (iw kd nd (lN m r) a x tx (.d (.aC 0 [] true))) fs ((i+1:Nat):Int),_,_)) (by refine ⟨?_,?_,?_,?_,?_,?_,?_,?_,?_,trivial⟩<;>(first | rfl | exact c1 | exact c2 | exact c3)) (by refine ⟨?_,?_,?_,trivial⟩<;>(first | exact ah rfl | exact vf | exact vs | exact ah (decide_eq_true (by omega)))) ?_
 exact nx
set_option maxHeartbeats 2000000 in
theorem Mv (s r:W) (m:Bool) (e kd nd n a x:Int) (tx:W) (fs:List DV) (i:Nat) (hi:i≤1000) (hf:fs[i]? = some (.int .i64 2)) (hr:r.length≤999999)
 (nx:oK s (gH m r) (fD m r) (oJ m r e) kd nd n (lN m r) x tx fs (i+1)):oK s r m e kd nd n a x tx fs i:=by
 have ok:=aJ fu;have hl:=fB hf;have vf:=fA hf;have vs:=dn (i:=i) (by omega);have c1:decide ((0:Int)≤(Nat.cast (R:=Int) i)∧(Nat.cast (R:=Int) i) < (Nat.cast (R:=Int) fs.length))=true:=decide_eq_true (by omega);have c2:decide (r.length≤999999)=true:=decide_eq_true hr;have c3:decide (r.length≤1000000)=true:=decide_eq_true (by omega);refine WK.eF ok 1000 0 [(54,aj true),(55,RV.bB (aI (2)) 0),(138,aK ((i+1:Nat):Int))] [] [2,5,6,7,12,13,14,15,51,52,53] [decide (0≤(i:Int)∧(i:Int) < (fs.length:Int)),true,true,true,true,true,true,true,decide (List.length r≤999999)] [(aj (decide ((i:Int) < (fs.length:Int))),aj true),(RV.bB (fs.getD (i:Int).toNat DV.aG) 0,RV.bB (aI (2)) 0),(aK (IntKind.i64.wrap ((i:Int)+1)),aK ((i+1:Nat):Int))] rfl (by kernel_rfl:bq (bG qP) 1000 0 _ _ _ _ (iR r m e (iw kd nd n a x tx (.d (.aC 0 [] true))) fs (i:Int))=some (aF mV 1,iR (gH m r) (fD m r) (oJ m r e) (iw kd nd n (lN m r) x tx (.d (.aC 0 [] true))) fs ((i+1:Nat):Int),_,_)) (by refine ⟨?_,?_,?_,?_,?_,?_,?_,?_,?_,trivial⟩<;>(first | rfl | exact c1 | exact c2 | exact c3)) (by refine ⟨?_,?_,?_,trivial⟩<;>(first | exact ah rfl | exact vf | exact vs | exact ah (decide_eq_true (by omega)))) ?_
 exact nx
set_option maxHeartbeats 2000000 in
theorem Mw (s r:W) (m:Bool) (e kd nd n a x:Int) (tx:W) (fs:List DV) (i:Nat) (hi:i≤1000) (hf:fs[i]? = some (.int .i64 3)) (hr:r.length≤999999) (q:Int) (hq:lN m r=q) (h0:q < 0)
 (nx:oK s (gH m r) (fD m r) (kZ (oJ m r e) 5) kd nd n a (IntKind.u8.wrap q) tx fs (i+1)):oK s r m e kd nd n a x tx fs i:=by
 have ok:=aJ fu;have hl:=fB hf;have vf:=fA hf;have vs:=dn (i:=i) (by omega);have c1:decide ((0:Int)≤(Nat.cast (R:=Int) i)∧(Nat.cast (R:=Int) i) < (Nat.cast (R:=Int) fs.length))=true:=decide_eq_true (by omega);have c2:decide (r.length≤999999)=true:=decide_eq_true hr;have c3:decide (r.length≤1000000)=true:=decide_eq_true (by omega);refine WK.eF ok 1000 0 [(54,aj true),(55,RV.bB (aI (3)) 0),(76,aK q),(78,aj true),(138,aK ((i+1:Nat):Int))] [] [2,5,6,7,12,13,14,15,51,52,53] [decide (0≤(i:Int)∧(i:Int) < (fs.length:Int)),true,true,true,true,true,true,true,decide (List.length r≤999999),true] [(aj (decide ((i:Int) < (fs.length:Int))),aj true),(RV.bB (fs.getD (i:Int).toNat DV.aG) 0,RV.bB (aI (3)) 0),(aK (Go.ay.lN m r),aK q),(aj (decide (q < (0:Int))),aj true),(aK (IntKind.i64.wrap ((i:Int)+1)),aK ((i+1:Nat):Int))] rfl (by kernel_rfl:bq (bG qP) 1000 0 _ _ _ _ (iR r m e (iw kd nd n a x tx (.d (.aC 0 [] true))) fs (i:Int))=some (aF mV 1,iR (gH m r) (fD m r) (kZ (oJ m r e) 5) (iw kd nd n a (IntKind.u8.wrap q) tx (.d (.aC 0 [] true))) fs ((i+1:Nat):Int),_,_)) (by refine ⟨?_,?_,?_,?_,?_,?_,?_,?_,?_,?_,trivial⟩<;>(first | rfl | exact c1 | exact c2 | exact c3)) (by refine ⟨?_,?_,?_,?_,?_,trivial⟩<;>(first | exact ah rfl | exact vf | exact vs | exact ah (decide_eq_true (by omega)) | exact .of_eq (by rw [hq]))) ?_
 exact nx
set_option maxHeartbeats 2000000 in
theorem Mx (s r:W) (m:Bool) (e kd nd n a x:Int) (tx:W) (fs:List DV) (i:Nat) (hi:i≤1000) (hf:fs[i]? = some (.int .i64 3)) (hr:r.length≤999999) (q:Int) (hq:lN m r=q) (h0:¬q < 0) (h1:255 < q)
 (nx:oK s (gH m r) (fD m r) (kZ (oJ m r e) 5) kd nd n a (IntKind.u8.wrap q) tx fs (i+1)):oK s r m e kd nd n a x tx fs i:=by
 have ok:=aJ fu;have hl:=fB hf;have vf:=fA hf;have vs:=dn (i:=i) (by omega);have c1:decide ((0:Int)≤(Nat.cast (R:=Int) i)∧(Nat.cast (R:=Int) i) < (Nat.cast (R:=Int) fs.length))=true:=decide_eq_true (by omega);have c2:decide (r.length≤999999)=true:=decide_eq_true hr;have c3:decide (r.length≤1000000)=true:=decide_eq_true (by omega);refine WK.eF ok 1000 0 [(54,aj true),(55,RV.bB (aI (3)) 0),(76,aK q),(78,aj false),(81,aj true),(138,aK ((i+1:Nat):Int))] [] [2,5,6,7,12,13,14,15,51,52,53] [decide (0≤(i:Int)∧(i:Int) < (fs.length:Int)),true,true,true,true,true,true,true,decide (List.length r≤999999),true] [(aj (decide ((i:Int) < (fs.length:Int))),aj true),(RV.bB (fs.getD (i:Int).toNat DV.aG) 0,RV.bB (aI (3)) 0),(aK (Go.ay.lN m r),aK q),(aj (decide (q < (0:Int))),aj false),(aj (decide ((255:Int) < q)),aj true),(aK (IntKind.i64.wrap ((i:Int)+1)),aK ((i+1:Nat):Int))] rfl (by kernel_rfl:bq (bG qP) 1000 0 _ _ _ _ (iR r m e (iw kd nd n a x tx (.d (.aC 0 [] true))) fs (i:Int))=some (aF mV 1,iR (gH m r) (fD m r) (kZ (oJ m r e) 5) (iw kd nd n a (IntKind.u8.wrap q) tx (.d (.aC 0 [] true))) fs ((i+1:Nat):Int),_,_)) (by refine ⟨?_,?_,?_,?_,?_,?_,?_,?_,?_,?_,trivial⟩<;>(first | rfl | exact c1 | exact c2 | exact c3)) (by refine ⟨?_,?_,?_,?_,?_,?_,trivial⟩<;>(first | exact ah rfl | exact vf | exact vs | exact ah (decide_eq_true (by omega)) | exact ah (decide_eq_false (by omega)) | exact .of_eq (by rw [hq]))) ?_
 exact nx
set_option maxHeartbeats 2000000 in
theorem MB (s r:W) (m:Bool) (e kd nd n a x:Int) (tx:W) (fs:List DV) (i:Nat) (hi:i≤1000) (hf:fs[i]? = some (.int .i64 3)) (hr:r.length≤999999) (q:Int) (hq:lN m r=q) (h0:¬q < 0) (h1:¬255 < q)
 (nx:oK s (gH m r) (fD m r) (oJ m r e) kd nd n a (IntKind.u8.wrap q) tx fs (i+1)):oK s r m e kd nd n a x tx fs i:=by
 have ok:=aJ fu;have hl:=fB hf;have vf:=fA hf;have vs:=dn (i:=i) (by omega);have c1:decide ((0:Int)≤(Nat.cast (R:=Int) i)∧(Nat.cast (R:=Int) i) < (Nat.cast (R:=Int) fs.length))=true:=decide_eq_true (by omega);have c2:decide (r.length≤999999)=true:=decide_eq_true hr;have c3:decide (r.length≤1000000)=true:=decide_eq_true (by omega);refine WK.eF ok 1000 0 [(54,aj true),(55,RV.bB (aI (3)) 0),(76,aK q),(78,aj false),(81,aj false),(138,aK ((i+1:Nat):Int))] [] [2,5,6,7,12,13,14,15,51,52,53] [decide (0≤(i:Int)∧(i:Int) < (fs.length:Int)),true,true,true,true,true,true,true,decide (List.length r≤999999)] [(aj (decide ((i:Int) < (fs.length:Int))),aj true),(RV.bB (fs.getD (i:Int).toNat DV.aG) 0,RV.bB (aI (3)) 0),(aK (Go.ay.lN m r),aK q),(aj (decide (q < (0:Int))),aj false),(aj (decide ((255:Int) < q)),aj false),(aK (IntKind.i64.wrap ((i:Int)+1)),aK ((i+1:Nat):Int))] rfl (by kernel_rfl:bq (bG qP) 1000 0 _ _ _ _ (iR r m e (iw kd nd n a x tx (.d (.aC 0 [] true))) fs (i:Int))=some (aF mV 1,iR (gH m r) (fD m r) (oJ m r e) (iw kd nd n a (IntKind.u8.wrap q) tx (.d (.aC 0 [] true))) fs ((i+1:Nat):Int),_,_)) (by refine ⟨?_,?_,?_,?_,?_,?_,?_,?_,?_,trivial⟩<;>(first | rfl | exact c1 | exact c2 | exact c3)) (by refine ⟨?_,?_,?_,?_,?_,?_,trivial⟩<;>(first | exact ah rfl | exact vf | exact vs | exact ah (decide_eq_true (by omega)) | exact ah (decide_eq_false (by omega)) | exact .of_eq (by rw [hq]))) ?_
 exact nx
set_option maxHeartbeats 2000000 in
theorem Px (s r:W) (m:Bool) (e kd nd n a x:Int) (tx:W) (fs:List DV) (i:Nat) (hi:i≤1000) (hf:fs[i]? = some (.int .i64 4)) (hr:r.length≤999999) (h0:oL m r=[(105:UInt8),(111:UInt8)])
 (nx:oK s (gH m r) (fD m r) (wh m e) kd nd n a 1 tx fs (i+1)):oK s r m e kd nd n a x tx fs i:=by
 have ok:=aJ fu;have hl:=fB hf;have vf:=fA hf;have vs:=dn (i:=i) (by omega);have c1:decide ((0:Int)≤(Nat.cast (R:=Int) i)∧(Nat.cast (R:=Int) i) < (Nat.cast (R:=Int) fs.length))=true:=decide_eq_true (by omega);have c2:decide (r.length≤999999)=true:=decide_eq_true hr;have c3:decide (r.length≤1000000)=true:=decide_eq_true (by omega);refine WK.eF ok 1000 0 [(54,aj true),(55,RV.bB (aI (4)) 0),(95,aj true),(138,aK ((i+1:Nat):Int))] [] [2,5,6,7,12,13,14,15,51,52,53] [decide (0≤(i:Int)∧(i:Int) < (fs.length:Int)),true,true,true,true,true,decide (List.length r≤1000000)] [(aj (decide ((i:Int) < (fs.length:Int))),aj true),(RV.bB (fs.getD (i:Int).toNat DV.aG) 0,RV.bB (aI (4)) 0),(aj (Go.ay.oL m r==[(105:UInt8),(111:UInt8)]),aj true),(aK (IntKind.i64.wrap ((i:Int)+1)),aK ((i+1:Nat):Int))] rfl (by kernel_rfl:bq (bG qP) 1000 0 _ _ _ _ (iR r m e (iw kd nd n a x tx (.d (.aC 0 [] true))) fs (i:Int))=some (aF mV 1,iR (gH m r) (fD m r) (wh m e) (iw kd nd n a 1 tx (.d (.aC 0 [] true))) fs ((i+1:Nat):Int),_,_)) (by refine ⟨?_,?_,?_,?_,?_,?_,?_,trivial⟩<;>(first | rfl | exact c1 | exact c2 | exact c3)) (by refine ⟨?_,?_,?_,?_,trivial⟩<;>(first | exact ah rfl | exact vf | exact vs | exact ah (decide_eq_true (by omega)) | exact ah (by rw [h0];rfl))) ?_
 exact nx
set_option maxHeartbeats 2000000 in
theorem Py (s r:W) (m:Bool) (e kd nd n a x:Int) (tx:W) (fs:List DV) (i:Nat) (hi:i≤1000) (hf:fs[i]? = some (.int .i64 4)) (hr:r.length≤999999) (h0:oL m r=[(115:UInt8),(112:UInt8),(97:UInt8),(99:UInt8),(101:UInt8)])
 (nx:oK s (gH m r) (fD m r) (wh m e) kd nd n a x tx fs (i+1)):oK s r m e kd nd n a x tx fs i:=by
 have ok:=aJ fu;have hl:=fB hf;have vf:=fA hf;have vs:=dn (i:=i) (by omega);have c1:decide ((0:Int)≤(Nat.cast (R:=Int) i)∧(Nat.cast (R:=Int) i) < (Nat.cast (R:=Int) fs.length))=true:=decide_eq_true (by omega);have c2:decide (r.length≤999999)=true:=decide_eq_true hr;have c3:decide (r.length≤1000000)=true:=decide_eq_true (by omega);refine WK.eF ok 1000 0 [(54,aj true),(55,RV.bB (aI (4)) 0),(95,aj false),(98,aj true),(138,aK ((i+1:Nat):Int))] [] [2,5,6,7,12,13,14,15,51,52,53] [decide (0≤(i:Int)∧(i:Int) < (fs.length:Int)),true,true,true,true,true,decide (List.length r≤1000000)] [(aj (decide ((i:Int) < (fs.length:Int))),aj true),(RV.bB (fs.getD (i:Int).toNat DV.aG) 0,RV.bB (aI (4)) 0),(aj (Go.ay.oL m r==[(105:UInt8),(111:UInt8)]),aj false),(aj (Go.ay.oL m r==[(115:UInt8),(112:UInt8),(97:UInt8),(99:UInt8),(101:UInt8)]),aj true),(aK (IntKind.i64.wrap ((i:Int)+1)),aK ((i+1:Nat):Int))] rfl (by kernel_rfl:bq (bG qP) 1000 0 _ _ _ _ (iR r m e (iw kd nd n a x tx (.d (.aC 0 [] true))) fs (i:Int))=some (aF mV 1,iR (gH m r) (fD m r) (wh m e) (iw kd nd n a x tx (.d (.aC 0 [] true))) fs ((i+1:Nat):Int),_,_)) (by refine ⟨?_,?_,?_,?_,?_,?_,?_,trivial⟩<;>(first | rfl | exact c1 | exact c2 | exact c3)) (by refine ⟨?_,?_,?_,?_,?_,trivial⟩<;>(first | exact ah rfl | exact vf | exact vs | exact ah (decide_eq_true (by omega)) | exact ah (by rw [h0];rfl))) ?_
 exact nx
set_option maxHeartbeats 2000000 in
theorem Pz (s r:W) (m:Bool) (e kd nd n a x:Int) (tx:W) (fs:List DV) (i:Nat) (hi:i≤1000) (hf:fs[i]? = some (.int .i64 4)) (hr:r.length≤999999) (h0:oL m r≠[(105:UInt8),(111:UInt8)]) (h1:oL m r≠[(115:UInt8),(112:UInt8),(97:UInt8),(99:UInt8),(101:UInt8)])
 (nx:oK s (gH m r) (fD m r) (kZ (wh m e) 6) kd nd n a x tx fs (i+1)):oK s r m e kd nd n a x tx fs i:=by
 have ok:=aJ fu;have hl:=fB hf;have vf:=fA hf;have vs:=dn (i:=i) (by omega);have c1:decide ((0:Int)≤(Nat.cast (R:=Int) i)∧(Nat.cast (R:=Int) i) < (Nat.cast (R:=Int) fs.length))=true:=decide_eq_true (by omega);have c2:decide (r.length≤999999)=true:=decide_eq_true hr;have c3:decide (r.length≤1000000)=true:=decide_eq_true (by omega);refine WK.eF ok 1000 0 [(54,aj true),(55,RV.bB (aI (4)) 0),(95,aj false),(98,aj false),(138,aK ((i+1:Nat):Int))] [] [2,5,6,7,12,13,14,15,51,52,53] [decide (0≤(i:Int)∧(i:Int) < (fs.length:Int)),true,true,true,true,true,decide (List.length r≤1000000),true] [(aj (decide ((i:Int) < (fs.length:Int))),aj true),(RV.bB (fs.getD (i:Int).toNat DV.aG) 0,RV.bB (aI (4)) 0),(aj (Go.ay.oL m r==[(105:UInt8),(111:UInt8)]),aj false),(aj (Go.ay.oL m r==[(115:UInt8),(112:UInt8),(97:UInt8),(99:UInt8),(101:UInt8)]),aj false),(aK (IntKind.i64.wrap ((i:Int)+1)),aK ((i+1:Nat):Int))] rfl (by kernel_rfl:bq (bG qP) 1000 0 _ _ _ _ (iR r m e (iw kd nd n a x tx (.d (.aC 0 [] true))) fs (i:Int))=some (aF mV 1,iR (gH m r) (fD m r) (kZ (wh m e) 6) (iw kd nd n a x tx (.d (.aC 0 [] true))) fs ((i+1:Nat):Int),_,_)) (by refine ⟨?_,?_,?_,?_,?_,?_,?_,?_,trivial⟩<;>(first | rfl | exact c1 | exact c2 | exact c3)) (by refine ⟨?_,?_,?_,?_,?_,trivial⟩<;>(first | exact ah rfl | exact vf | exact vs | exact ah (decide_eq_true (by omega)) | exact ah (beq_false_of_ne h0) | exact ah (beq_false_of_ne h1))) ?_
 exact nx
set_option maxHeartbeats 2000000 in
theorem MC (s r:W) (m:Bool) (e kd nd n a x:Int) (tx:W) (fs:List DV) (i:Nat) (hi:i≤1000) (hf:fs[i]? = some (.int .i64 5)) (hr:r.length≤999999) (h0:m=false)
 (nx:oK s r m e kd nd n a x tx fs (i+1)):oK s r m e kd nd n a x tx fs i:=by
 have ok:=aJ fu;have hl:=fB hf;have vf:=fA hf;have vs:=dn (i:=i) (by omega);have c1:decide ((0:Int)≤(Nat.cast (R:=Int) i)∧(Nat.cast (R:=Int) i) < (Nat.cast (R:=Int) fs.length))=true:=decide_eq_true (by omega);have c2:decide (r.length≤999999)=true:=decide_eq_true hr;have c3:decide (r.length≤1000000)=true:=decide_eq_true (by omega);refine WK.eF ok 1000 0 [(54,aj true),(55,RV.bB (aI (5)) 0),(102,aj true),(138,aK ((i+1:Nat):Int))] [] [2,5,6,7,12,13,14,15,51,52,53] [decide (0≤(i:Int)∧(i:Int) < (fs.length:Int))] [(aj (decide ((i:Int) < (fs.length:Int))),aj true),(RV.bB (fs.getD (i:Int).toNat DV.aG) 0,RV.bB (aI (5)) 0),(aj !m,aj true),(aK (IntKind.i64.wrap ((i:Int)+1)),aK ((i+1:Nat):Int))] rfl (by kernel_rfl:bq (bG qP) 1000 0 _ _ _ _ (iR r m e (iw kd nd n a x tx (.d (.aC 0 [] true))) fs (i:Int))=some (aF mV 1,iR r m e (iw kd nd n a x tx (.d (.aC 0 [] true))) fs ((i+1:Nat):Int),_,_)) ⟨(by first | rfl | exact c1 | exact c2 | exact c3),trivial⟩ (by refine ⟨?_,?_,?_,?_,trivial⟩<;>(first | exact ah rfl | exact vf | exact vs | exact ah (decide_eq_true (by omega)) | exact ah (by rw [h0];rfl))) ?_
 exact nx
set_option maxHeartbeats 2000000 in
theorem ME (s r:W) (m:Bool) (e kd nd n a x:Int) (tx:W) (fs:List DV) (i:Nat) (hi:i≤1000) (hf:fs[i]? = some (.int .i64 6)) (hr:r.length≤999999) (h0:m=false)
 (nx:oK s r false (kZ e 6) kd nd n a x r fs (i+1)):oK s r m e kd nd n a x tx fs i:=by
 have ok:=aJ fu;have hl:=fB hf;have vf:=fA hf;have vs:=dn (i:=i) (by omega);have c1:decide ((0:Int)≤(Nat.cast (R:=Int) i)∧(Nat.cast (R:=Int) i) < (Nat.cast (R:=Int) fs.length))=true:=decide_eq_true (by omega);have c2:decide (r.length≤999999)=true:=decide_eq_true hr;have c3:decide (r.length≤1000000)=true:=decide_eq_true (by omega);refine WK.eF ok 1000 0 [(54,aj true),(55,RV.bB (aI (6)) 0),(129,aj true),(138,aK ((i+1:Nat):Int))] [] [2,5,6,7,12,13,14,15,51,52,53] [decide (0≤(i:Int)∧(i:Int) < (fs.length:Int)),true] [(aj (decide ((i:Int) < (fs.length:Int))),aj true),(RV.bB (fs.getD (i:Int).toNat DV.aG) 0,RV.bB (aI (6)) 0),(aj !m,aj true),(aK (IntKind.i64.wrap ((i:Int)+1)),aK ((i+1:Nat):Int))] rfl (by kernel_rfl:bq (bG qP) 1000 0 _ _ _ _ (iR r m e (iw kd nd n a x tx (.d (.aC 0 [] true))) fs (i:Int))=some (aF mV 1,iR r false (kZ e 6) (iw kd nd n a x r (.d (.aC 0 [] true))) fs ((i+1:Nat):Int),_,_)) (by refine ⟨?_,?_,trivial⟩<;>(first | rfl | exact c1 | exact c2 | exact c3)) (by refine ⟨?_,?_,?_,?_,trivial⟩<;>(first | exact ah rfl | exact vf | exact vs | exact ah (decide_eq_true (by omega)) | exact ah (by rw [h0];rfl))) ?_
 exact nx
set_option maxHeartbeats 2000000 in
theorem MF (s r:W) (m:Bool) (e kd nd n a x:Int) (tx:W) (fs:List DV) (i:Nat) (hi:i≤1000) (hf:fs[i]? = some (.int .i64 6)) (hr:r.length≤999999) (h0:m=true) (h1:(0:Int)≤Lib.indexByte r 10)
 (nx:oK s r false (kZ e 6) kd nd n a x r fs (i+1)):oK s r m e kd nd n a x tx fs i:=by
 have ok:=aJ fu;have hl:=fB hf;have vf:=fA hf;have vs:=dn (i:=i) (by omega);have c1:decide ((0:Int)≤(Nat.cast (R:=Int) i)∧(Nat.cast (R:=Int) i) < (Nat.cast (R:=Int) fs.length))=true:=decide_eq_true (by omega);have c2:decide (r.length≤999999)=true:=decide_eq_true hr;have c3:decide (r.length≤1000000)=true:=decide_eq_true (by omega);refine WK.eF ok 1000 0 [(54,aj true),(55,RV.bB (aI (6)) 0),(129,aj false),(132,aj true),(138,aK ((i+1:Nat):Int))] [] [2,5,6,7,12,13,14,15,51,52,53] [decide (0≤(i:Int)∧(i:Int) < (fs.length:Int)),true] [(aj (decide ((i:Int) < (fs.length:Int))),aj true),(RV.bB (fs.getD (i:Int).toNat DV.aG) 0,RV.bB (aI (6)) 0),(aj !m,aj false),(aj (decide (0≤Go.Lib.indexByte r (10))),aj true),(aK (IntKind.i64.wrap ((i:Int)+1)),aK ((i+1:Nat):Int))] rfl (by kernel_rfl:bq (bG qP) 1000 0 _ _ _ _ (iR r m e (iw kd nd n a x tx (.d (.aC 0 [] true))) fs (i:Int))=some (aF mV 1,iR r false (kZ e 6) (iw kd nd n a x r (.d (.aC 0 [] true))) fs ((i+1:Nat):Int),_,_)) (by refine ⟨?_,?_,trivial⟩<;>(first | rfl | exact c1 | exact c2 | exact c3)) (by refine ⟨?_,?_,?_,?_,?_,trivial⟩<;>(first | exact ah rfl | exact vf | exact vs | exact ah (decide_eq_true (by omega)) | exact ah (by rw [h0];rfl) | exact ah (decide_eq_true h1))) ?_
 exact nx
set_option maxHeartbeats 2000000 in
theorem MG (s r:W) (m:Bool) (e kd nd n a x:Int) (tx:W) (fs:List DV) (i:Nat) (hi:i≤1000) (hf:fs[i]? = some (.int .i64 6)) (hr:r.length≤999999) (h0:m=true) (h1:¬(0:Int)≤Lib.indexByte r 10)
 (nx:oK s r false e kd nd n a x r fs (i+1)):oK s r m e kd nd n a x tx fs i:=by
 have ok:=aJ fu;have hl:=fB hf;have vf:=fA hf;have vs:=dn (i:=i) (by omega);have c1:decide ((0:Int)≤(Nat.cast (R:=Int) i)∧(Nat.cast (R:=Int) i) < (Nat.cast (R:=Int) fs.length))=true:=decide_eq_true (by omega);have c2:decide (r.length≤999999)=true:=decide_eq_true hr;have c3:decide (r.length≤1000000)=true:=decide_eq_true (by omega);refine WK.eF ok 1000 0 [(54,aj true),(55,RV.bB (aI (6)) 0),(129,aj false),(132,aj false),(138,aK ((i+1:Nat):Int))] [] [2,5,6,7,12,13,14,15,51,52,53] [decide (0≤(i:Int)∧(i:Int) < (fs.length:Int))] [(aj (decide ((i:Int) < (fs.length:Int))),aj true),(RV.bB (fs.getD (i:Int).toNat DV.aG) 0,RV.bB (aI (6)) 0),(aj !m,aj false),(aj (decide (0≤Go.Lib.indexByte r (10))),aj false),(aK (IntKind.i64.wrap ((i:Int)+1)),aK ((i+1:Nat):Int))] rfl (by kernel_rfl:bq (bG qP) 1000 0 _ _ _ _ (iR r m e (iw kd nd n a x tx (.d (.aC 0 [] true))) fs (i:Int))=some (aF mV 1,iR r false e (iw kd nd n a x r (.d (.aC 0 [] true))) fs ((i+1:Nat):Int),_,_)) ⟨(by first | rfl | exact c1 | exact c2 | exact c3),trivial⟩ (by refine ⟨?_,?_,?_,?_,?_,trivial⟩<;>(first | exact ah rfl | exact vf | exact vs | exact ah (decide_eq_true (by omega)) | exact ah (by rw [h0];rfl) | exact ah (decide_eq_false h1))) ?_
 exact nx
theorem JD (e:Int):kZ e 6≠0:=by
 unfold kZ;split
 ·omega
 ·simp
theorem vw {A:ay.Act} {e:Int}:ay.stop A true e=({},kZ e 6):=by unfold ay.stop;simp only [if_true];rw [if_neg (JD e)]
theorem AP {A:ay.Act} {e:Int} (h:e≠0):ay.stop A false e=({},e):=by unfold ay.stop;simp only [Bool.false_eq_true,if_false];rw [if_neg h]
theorem fP {A:ay.Act}:ay.stop A false 0=(A,0):=rfl
set_option maxHeartbeats 2000000 in
theorem jT (s r:W) (m:Bool) (e kd nd n a x:Int) (tx:W) (fs:List DV) (i:Nat) (hi:i=fs.length) (hq:bK s=ay.stop { kind:=kd,node:=nd,n:=n,at_:=a,x:=x,text:=tx } m e):oK s r m e kd nd n a x tx fs i:=by
 have ok:=aJ fu;cases hm:m with
 | true=>
   have h6:=JD e;have hb:(kZ e 6 != 0)=true:=bne_iff_ne.2 h6;rw [hm,vw] at hq;exact WK.fin ok 1000 0 [(54,aj false),(139,aj true),(143,aj true)] [true] [(aj (decide ((i:Int) < (fs.length:Int))),aj false),(aj true,aj true),(aj (Go.ay.kZ e (6) != 0),aj true)] rfl (by kernel_rfl:au (bG qP) true _ 1000 0 _ _ (iR r true e (iw kd nd n a x tx (.d (.aC 0 [] true))) fs (i:Int))=some (RV.bn [RV.d (DV.agg [aI (0),aI (0),aI (0),aI (0),aU (0),DV.str [],DV.aC 0 [] true]),aK (Go.ay.kZ e (6))],[],_,_)) ⟨(by rfl),trivial⟩ (by refine ⟨?_,?_,?_,trivial⟩<;>(first | exact ah rfl | exact ah (decide_eq_false (by omega)) | exact ah hb)) ⟨by rw [hq];rfl,rfl⟩
 | false=>
   rw [hm] at hq;by_cases he:e=0
   ·rw [he,fP] at hq;have hb:(e != 0)=false:=by rw [he];rfl
    exact WK.fin ok 1000 0 [(54,aj false),(139,aj false),(143,aj false)] [] [(aj (decide ((i:Int) < (fs.length:Int))),aj false),(aj false,aj false),(aj (e != 0),aj false)] rfl (by kernel_rfl:au (bG qP) true _ 1000 0 _ _ (iR r false e (iw kd nd n a x tx (.d (.aC 0 [] true))) fs (i:Int))=some (RV.bn [RV.d (DV.agg [aI kd,aI nd,aI n,aI a,aU x,DV.str tx,(.aC 0 [] true)]),aK (0)],[],_,_)) trivial (by refine ⟨?_,?_,?_,trivial⟩<;>(first | exact ah rfl | exact ah (decide_eq_false (by omega)) | exact ah hb)) ⟨by rw [hq];rfl,rfl⟩
   ·have hb:(e != 0)=true:=bne_iff_ne.2 he;rw [AP he] at hq;exact WK.fin ok 1000 0 [(54,aj false),(139,aj false),(143,aj true)] [] [(aj (decide ((i:Int) < (fs.length:Int))),aj false),(aj false,aj false),(aj (e != 0),aj true)] rfl (by kernel_rfl:au (bG qP) true _ 1000 0 _ _ (iR r false e (iw kd nd n a x tx (.d (.aC 0 [] true))) fs (i:Int))=some (RV.bn [RV.d (DV.agg [aI (0),aI (0),aI (0),aI (0),aU (0),DV.str [],DV.aC 0 [] true]),aK e],[],_,_)) trivial (by refine ⟨?_,?_,?_,trivial⟩<;>(first | exact ah rfl | exact ah (decide_eq_false (by omega)) | exact ah hb)) ⟨by rw [hq];rfl,rfl⟩
abbrev ZN (s r:W) (m:Bool) (e kd nd n a x:Int) (tx:W) (ks:List DV) (fs:List DV) (i:Nat):Prop:=WK Tryz.prog 0 (aF mV 1) (Mt r m e kd nd n a x tx ks fs (i:Int)).den (gZ s)
set_option maxHeartbeats 2000000 in
theorem PD (s r:W) (m:Bool) (e kd nd n a x:Int) (tx:W) (kl:List Bool) (ks:List DV) (fs:List DV) (i:Nat) (hi:i=fs.length) (hq:bK s=ay.stop { kind:=kd,node:=nd,n:=n,at_:=a,x:=x,text:=tx,keep:=kl } m e) (hk:e=0→ks=kl.map DV.bool∧kl≠[]):ZN s r m e kd nd n a x tx ks fs i:=by
 have ok:=aJ fu;cases hm:m with
 | true=>
   have h6:=JD e;have hb:(kZ e 6 != 0)=true:=bne_iff_ne.2 h6;rw [hm,vw] at hq;exact WK.fin ok 1000 0 [(54,aj false),(139,aj true),(143,aj true)] [true] [(aj (decide ((i:Int) < (fs.length:Int))),aj false),(aj true,aj true),(aj (Go.ay.kZ e (6) != 0),aj true)] rfl (by kernel_rfl:au (bG qP) true _ 1000 0 _ _ (Mt r true e kd nd n a x tx ks fs (i:Int))=some (RV.bn [RV.d (DV.agg [aI (0),aI (0),aI (0),aI (0),aU (0),DV.str [],DV.aC 0 [] true]),aK (Go.ay.kZ e (6))],[],_,_)) ⟨(by rfl),trivial⟩ (by refine ⟨?_,?_,?_,trivial⟩<;>(first | exact ah rfl | exact ah (decide_eq_false (by omega)) | exact ah hb)) ⟨by rw [hq];rfl,rfl⟩
 | false=>
   rw [hm] at hq;by_cases he:e=0
   ·obtain ⟨k1,k2⟩:=hk he;rw [he,fP] at hq;have hb:(e != 0)=false:=by rw [he];rfl
    have k3:keepD kl = .aC 1 ks false:=by unfold keepD;rw [if_neg k2,k1]
    have k4:WZ (({ kind:=kd,node:=nd,n:=n,at_:=a,x:=x,text:=tx,keep:=kl }:ay.Act),0) = .bn [.d (.agg [.int .i64 kd,.int .i64 nd,.int .i64 n,.int .i64 a,.int .u8 x,.str tx,.aC 1 ks false]),.d (.int .i64 0)]:=by
     unfold WZ Pw;simp only [k3]
    exact WK.fin ok 1000 0 [(54,aj false),(139,aj false),(143,aj false)] [] [(aj (decide ((i:Int) < (fs.length:Int))),aj false),(aj false,aj false),(aj (e != 0),aj false)] rfl (by kernel_rfl:au (bG qP) true _ 1000 0 _ _ (Mt r false e kd nd n a x tx ks fs (i:Int))=some (RV.bn [RV.d (DV.agg [aI kd,aI nd,aI n,aI a,aU x,DV.str tx,DV.aC 1 ks false]),aK (0)],[],_,_)) trivial (by refine ⟨?_,?_,?_,trivial⟩<;>(first | exact ah rfl | exact ah (decide_eq_false (by omega)) | exact ah hb)) ⟨by rw [hq,k4],rfl⟩
   ·have hb:(e != 0)=true:=bne_iff_ne.2 he;rw [AP he] at hq;exact WK.fin ok 1000 0 [(54,aj false),(139,aj false),(143,aj true)] [] [(aj (decide ((i:Int) < (fs.length:Int))),aj false),(aj false,aj false),(aj (e != 0),aj true)] rfl (by kernel_rfl:au (bG qP) true _ 1000 0 _ _ (Mt r false e kd nd n a x tx ks fs (i:Int))=some (RV.bn [RV.d (DV.agg [aI (0),aI (0),aI (0),aI (0),aU (0),DV.str [],DV.aC 0 [] true]),aK e],[],_,_)) trivial (by refine ⟨?_,?_,?_,trivial⟩<;>(first | exact ah rfl | exact ah (decide_eq_false (by omega)) | exact ah hb)) ⟨by rw [hq];rfl,rfl⟩
theorem SE (c:UInt8) (w:W) (pos:Nat):1≤FI c w pos:=by
 unfold FI;cases Nat.ble c.toNat 127 with
 | true=>exact Nat.le_refl _
 | false=>
   show 1≤(Utf8.decode _ _).2
   rw [Lib.decode_at];unfold Lib.decodeN;split
   ·exact Nat.le_refl _
   ·split
    ·split<;>simp
    ·split
     ·split<;>simp
     ·split
      ·split<;>simp
      ·simp
theorem W9 {c:UInt8} (h:(c==43||c==45)=true) (w:W) (pos:Nat):QA c w pos=(c.toNat:Int)∧FI c w pos=1:=by
 have hc:Nat.ble c.toNat 127=true:=by
  rcases Bool.or_eq_true ..▸h with h | h<;>(rw [beq_iff_eq.1 h];rfl)
 unfold QA FI;rw [hc];exact ⟨rfl,rfl⟩
theorem SF {c:UInt8}:((c.toNat:Int)==43)=(c==43):=by
 by_cases h:c=43
 ·subst h;rfl
 ·rw [beq_false_of_ne h];refine beq_false_of_ne fun e=>h (UInt8.toNat_inj.1 ?_)
  have:c.toNat=43:=by omega
  exact this
set_option maxHeartbeats 2000000 in
theorem AQ (s r:W) (m:Bool) (e kd nd n a x:Int) (tx:W) (fs:List DV) (i:Nat) (hi:i≤1000) (w:W) (hw:w.length≤1000000)
 (hg:e=0→(w.all fun c=>c==43||c==45)=true)
 (nx:∀ks,(e=0→ks=(kL w).map DV.bool)→ZN s r m e kd nd n a x tx ks fs (i+1)) :
 WK Tryz.prog 0 (aF mV 2) (EH r m e kd nd n a x tx [] fs (i:Int) w 0 w).den (gZ s):=by
 have ok:=aJ fu;have vs:=dn (i:=i) (by omega);refine WK.rec' (fun p:List DV×Nat×W=>EH r m e kd nd n a x tx p.1 fs (i:Int) w p.2.1 p.2.2) (fun p=>p.2.2=w.drop p.2.1∧p.1.length+p.2.2.length≤w.length∧(e=0→(p.2.2.all fun c=>c==43||c==45)=true∧∃kl,p.1=kl.map DV.bool∧kl++kL p.2.2=kL w)) (fun p=>p.2.2.length) ?_ ([],0,w) ⟨rfl,by simp,fun h=>⟨hg h,[],rfl,rfl⟩⟩
 rintro ⟨ks,pos,rest⟩ ⟨h1,h2,h3⟩ ih
 simp only at h1 h2 h3;cases rest with
 | nil=>
   have hn:=nx ks (fun h=>by
    obtain ⟨_,kl,e1,e2⟩:=h3 h;rw [e1,←e2];simp [kL])
   refine WK.eF ok 1000 0 [(138,aK ((i+1:Nat):Int))] [] [2,5,6,7,12,13,14,15,51,52,53] [] [(aK (IntKind.i64.wrap ((i:Int)+1)),aK ((i+1:Nat):Int))] rfl (by kernel_rfl:bq (bG qP) 1000 0 _ _ _ _ (EH r m e kd nd n a x tx ks fs (i:Int) w pos [])=some (aF mV 1,Mt r m e kd nd n a x tx ks fs ((i+1:Nat):Int),_,_)) trivial ⟨(by first | exact ah rfl | exact vs),trivial⟩ ?_;exact hn
 | cons c t1=>
   obtain ⟨b,hb⟩:∃b,(QA c w pos==43)=b:=⟨_,rfl⟩;have hp:=SE c w pos;have c1:decide ((ks.length+[DV.bool b].length)*1≤2 ^ 38)=true:=decide_eq_true (by simp only [List.length_cons,List.length_nil] at h2 ⊢;omega)
   have hn:=ih (ks++[.bool b],pos+FI c w pos,(c::t1).drop (FI c w pos)) ⟨by simp only;rw [h1,List.drop_drop],by simp only [List.length_append,List.length_drop,List.length_cons,List.length_nil] at h2 ⊢;omega,fun h=>by
    obtain ⟨g1,kl,g2,g3⟩:=h3 h;rw [List.all_cons,Bool.and_eq_true] at g1;obtain ⟨p1,p2⟩:=W9 g1.1 w pos;refine ⟨by simp only [p2];exact g1.2,kl++[b],by simp only [g2,List.map_append];rfl,?_⟩;simp only [p2,List.drop_succ_cons,List.drop_zero];rw [←g3,←hb,p1,SF];simp [kL]⟩ (by simp only [List.length_drop,List.length_cons];omega)
   simp only at hn;refine WK.eF ok 1000 0 [(122,aj b)] [] [2,5,6,7,12,13,14,15,51,52,53,115] [decide ((ks.length+[aB b].length)*Go.Proofs.Tryz.prog.types[4].bytes≤2 ^ 38)] [(aj (QA c w pos==43),aj b)] rfl (by kernel_rfl:bq (bG qP) 1000 0 _ _ _ _ (EH r m e kd nd n a x tx ks fs (i:Int) w pos (c::t1))=some (aF mV 2,EH r m e kd nd n a x tx (ks++[.bool b]) fs (i:Int) w (pos+FI c w pos) ((c::t1).drop (FI c w pos)),_,_)) ⟨(by first | rfl | exact c1),trivial⟩ ⟨(by first | exact ah rfl | exact ah hb),trivial⟩ ?_;exact hn
def yN (r:W) (m:Bool) (e:Int) (kd nd n a x:Int) (tx:W) (fs:List DV) (i:Int) (w:W):jN:={ n:=147,m:=0,regs:=T.mk [(2,.ptr 200 0),(5,.ptr 201 0),(6,.ptr 202 0),(7,.ptr 203 0),(12,.ptr 204 0),(13,.ptr 205 0),(14,.ptr 206 0),(15,.gI (.func 19) [] [.ptr 206 0,.ptr 205 0]),(51,.d (.aC 1 fs false)),(52,.d (.int .i64 (fs.length:Int))),(53,.d (.int .i64 i)),(115,.ptr 207 0)],objs:=T.mk [(200,.box aT VP),(201,.box sT [.d (.str r)]),(202,.box tT [.d (.bool m)]),(203,.box aT (iw kd nd n a x tx (.d (.aC 0 [] true)))),(204,.box eT [.d (.int .i64 e)]),(205,.box Mh [.gI (.func 17) [] [.ptr 204 0]]),(206,.box QS [.gI (.func 18) [] [.ptr 202 0,.ptr 205 0,.ptr 201 0]]),(207,.sit w 0 w)] }
theorem MH (r:W) (m:Bool) (e:Int) (kd nd n a x:Int) (tx:W) (fs:List DV) (i:Int) (w:W):(EH r m e kd nd n a x tx [] fs i w 0 w).den = { (yN r m e kd nd n a x tx fs i w).den with O:=bF (bF (yN r m e kd nd n a x tx fs i w).den.O 208 (some (.arr tT 1 []))) 203 (some (.box aT ((iw kd nd n a x tx (.d (.aC 0 [] true))).set 6 (.own 208 1)))) }:=by
 simp only [jN.den,EH,yN];congr 1;funext q;by_cases h3:q=203
 ·subst h3;rfl
 by_cases h8:q=208
 ·subst h8;rfl
 rw [dP _ _ h3,dP _ _ h8];simp only [T.mk];by_cases h0:q=200
 ·subst h0;rfl
 by_cases h1:q=201
 ·subst h1;rfl
 by_cases h2:q=202
 ·subst h2;rfl
 by_cases h4:q=204
 ·subst h4;rfl
 by_cases h5:q=205
 ·subst h5;rfl
 by_cases h6:q=206
 ·subst h6;rfl
 by_cases h7:q=207
 ·subst h7;rfl
 simp only [T.dA _ h0,T.dA _ h1,T.dA _ h2,T.dA _ h3,T.dA _ h4,T.dA _ h5,T.dA _ h6,T.dA _ h7,T.dA _ h8]
theorem AU (s r:W) (m:Bool) (e kd nd n a x:Int) (tx:W) (fs:List DV) (i:Nat) (w:W) (hk:WK Tryz.prog 0 (aF mV 2) (EH r m e kd nd n a x tx [] fs (i:Int) w 0 w).den (gZ s)):WK Tryz.prog 0 (aF mV 2) (yN r m e kd nd n a x tx fs (i:Int) w).den (gZ s):=
 WK.CV (i:=203) (j:=6) (sl:=208) (T:=aT) (ty:=tT) (sz:=1) (sz':=0) (cs:=iw kd nd n a x tx (.d (.aC 0 [] true))) rfl rfl rfl (MH r m e kd nd n a x tx fs (i:Int) w) hk
set_option maxHeartbeats 4000000 in
theorem PE (s r:W) (m:Bool) (e kd nd n a x:Int) (tx:W) (fs:List DV) (i:Nat) (hi:i≤1000) (hf:fs[i]? = some (.int .i64 5)) (hr:r.length≤999999) (hm:m=true) (w:W) (hw:oL m r=w)
 (nx:∀ks,((if mU w=true then wh m e else kZ (wh m e) 6)=0→ks=(kL w).map DV.bool)→ZN s (gH m r) (fD m r) (if mU w=true then wh m e else kZ (wh m e) 6) kd nd n a x tx ks fs (i+1)):oK s r m e kd nd n a x tx fs i:=by
 have ok:=aJ fu;have hl:=fB hf;have vf:=fA hf;have c1:decide ((0:Int)≤(Nat.cast (R:=Int) i)∧(Nat.cast (R:=Int) i) < (Nat.cast (R:=Int) fs.length))=true:=decide_eq_true (by omega);have c3:decide (r.length≤1000000)=true:=decide_eq_true (by omega);have em:(!m)=false:=by rw [hm];rfl
 have hwl:w.length≤1000000:=by rw [←hw];have:=CS m r;omega
 have c4:Nat.ble w.length 1000000000=true:=Nat.ble_eq_true_of_le (by omega);by_cases hk:mU w=true
 ·simp only [if_pos hk] at nx;have hk2:=hk;unfold mU at hk2;rw [Bool.and_eq_true] at hk2;have h1:w≠[]:=by simpa using hk2.1
  have ht:(!(Lib.trimS w [43,45]==[]))=false:=by rw [Io.2 hk2.2];rfl
  have hn:=AU s _ _ _ kd nd n a x tx fs i w (AQ s (gH m r) (fD m r) (wh m e) kd nd n a x tx fs i hi w hwl (fun _=>hk2.2) nx);refine WK.eF ok 1000 0 [(54,aj true),(55,RV.bB (aI (5)) 0),(102,aj false),(104,aR w),(106,aj false),(110,aj false)] [] [2,5,6,7,12,13,14,15,51,52,53,115] [decide (0≤(i:Int)∧(i:Int) < (fs.length:Int)),true,true,true,true,true,decide (List.length r≤1000000),(List.length w).ble 1000000000,true,true] [(aj (decide ((i:Int) < (fs.length:Int))),aj true),(RV.bB (fs.getD (i:Int).toNat DV.aG) 0,RV.bB (aI (5)) 0),(aj !m,aj false),(aR (Go.ay.oL m r),aR w),(aj (w==[]),aj false),(aj !Go.Lib.trimS w [(43:UInt8),(45:UInt8)]==[],aj false)] rfl (by kernel_rfl:bq (bG qP) 1000 0 _ _ _ _ (iR r m e (iw kd nd n a x tx (.d (.aC 0 [] true))) fs (i:Int))=some (aF mV 2,yN (gH m r) (fD m r) (wh m e) kd nd n a x tx fs (i:Int) w,_,_)) (by refine ⟨?_,?_,?_,?_,?_,?_,?_,?_,?_,?_,trivial⟩<;>(first | rfl | exact c1 | exact c3 | exact c4)) (by refine ⟨?_,?_,?_,?_,?_,?_,trivial⟩<;>(first | exact ah rfl | exact vf | exact ah (decide_eq_true (by omega)) | exact ah em | exact .of_eq (by rw [hw]) | exact ah (beq_false_of_ne h1) | exact ah ht)) ?_
  exact hn
 ·simp only [if_neg hk] at nx;have hn:=AU s _ _ _ kd nd n a x tx fs i w (AQ s (gH m r) (fD m r) (kZ (wh m e) 6) kd nd n a x tx fs i hi w hwl (fun h=>absurd h (JD _)) nx);by_cases h1:w=[]
  ·have h2:(w==[])=true:=by rw [h1];rfl
   refine WK.eF ok 1000 0 [(54,aj true),(55,RV.bB (aI (5)) 0),(102,aj false),(104,aR w),(106,aj true)] [] [2,5,6,7,12,13,14,15,51,52,53,115] [decide (0≤(i:Int)∧(i:Int) < (fs.length:Int)),true,true,true,true,true,decide (List.length r≤1000000),true] [(aj (decide ((i:Int) < (fs.length:Int))),aj true),(RV.bB (fs.getD (i:Int).toNat DV.aG) 0,RV.bB (aI (5)) 0),(aj !m,aj false),(aR (Go.ay.oL m r),aR w),(aj (w==[]),aj true)] rfl (by kernel_rfl:bq (bG qP) 1000 0 _ _ _ _ (iR r m e (iw kd nd n a x tx (.d (.aC 0 [] true))) fs (i:Int))=some (aF mV 2,yN (gH m r) (fD m r) (kZ (wh m e) 6) kd nd n a x tx fs (i:Int) w,_,_)) (by refine ⟨?_,?_,?_,?_,?_,?_,?_,?_,trivial⟩<;>(first | rfl | exact c1 | exact c3 | exact c4)) (by refine ⟨?_,?_,?_,?_,?_,trivial⟩<;>(first | exact ah rfl | exact vf | exact ah (decide_eq_true (by omega)) | exact ah em | exact .of_eq (by rw [hw]) | exact ah h2)) ?_
   exact hn
  ·have ht:(!(Lib.trimS w [43,45]==[]))=true:=by
    rw [Bool.not_eq_true',beq_false_of_ne];intro h;refine hk ?_;unfold mU;rw [Io.1 h,Bool.and_true];simpa using h1
   refine WK.eF ok 1000 0 [(54,aj true),(55,RV.bB (aI (5)) 0),(102,aj false),(104,aR w),(106,aj false),(110,aj true)] [] [2,5,6,7,12,13,14,15,51,52,53,115] [decide (0≤(i:Int)∧(i:Int) < (fs.length:Int)),true,true,true,true,true,decide (List.length r≤1000000),(List.length w).ble 1000000000,true,true,true] [(aj (decide ((i:Int) < (fs.length:Int))),aj true),(RV.bB (fs.getD (i:Int).toNat DV.aG) 0,RV.bB (aI (5)) 0),(aj !m,aj false),(aR (Go.ay.oL m r),aR w),(aj (w==[]),aj false),(aj !Go.Lib.trimS w [(43:UInt8),(45:UInt8)]==[],aj true)] rfl (by kernel_rfl:bq (bG qP) 1000 0 _ _ _ _ (iR r m e (iw kd nd n a x tx (.d (.aC 0 [] true))) fs (i:Int))=some (aF mV 2,yN (gH m r) (fD m r) (kZ (wh m e) 6) kd nd n a x tx fs (i:Int) w,_,_)) (by refine ⟨?_,?_,?_,?_,?_,?_,?_,?_,?_,?_,?_,trivial⟩<;>(first | rfl | exact c1 | exact c3 | exact c4)) (by refine ⟨?_,?_,?_,?_,?_,?_,trivial⟩<;>(first | exact ah rfl | exact vf | exact ah (decide_eq_true (by omega)) | exact ah em | exact .of_eq (by rw [hw]) | exact ah (beq_false_of_ne h1) | exact ah ht)) ?_
   exact hn
def yO (r:W) (m:Bool) (e:Int) (ac:List RV):jN:={ n:=147,m:=0,regs:=T.mk [(2,.ptr 200 0),(5,.ptr 201 0),(6,.ptr 202 0),(7,.ptr 203 0),(12,.ptr 204 0),(13,.ptr 205 0),(14,.ptr 206 0),(15,.gI (.func 19) [] [.ptr 206 0,.ptr 205 0]),(51,.d (.aC 0 [] true)),(52,.d (.int .i64 0)),(53,.d (.int .i64 0))],objs:=T.mk [(200,.box aT VP),(201,.box sT [.d (.str r)]),(202,.box tT [.d (.bool m)]),(203,.box aT ac),(204,.box eT [.d (.int .i64 e)]),(205,.box Mh [.gI (.func 17) [] [.ptr 204 0]]),(206,.box QS [.gI (.func 18) [] [.ptr 202 0,.ptr 205 0,.ptr 201 0]])] }
abbrev Xa:List DV:=[.int .i64 1,.int .i64 2,.int .i64 3]
theorem Iw (s r:W) (m:Bool) (k:Int) (hr:r.length≤999999) (hq:bK s=ay.stop { kind:=k,node:=lN m r } (fD m r) (oJ m r 0)):oK s r m 0 k 0 0 0 0 [] [.int .i64 0] 0:=
 xg s r m 0 k 0 0 0 0 [] [.int .i64 0] 0 (by omega) rfl hr (jT _ _ _ _ _ _ _ _ _ _ _ _ rfl hq)
theorem yP (s r:W) (m:Bool) (k:Int) (hr:r.length≤999999) (hq:bK s=ay.stop { kind:=k,n:=lN m r } (fD m r) (oJ m r 0)):oK s r m 0 k 0 0 0 0 [] [.int .i64 1] 0:=
 CW s r m 0 k 0 0 0 0 [] [.int .i64 1] 0 (by omega) rfl hr (jT _ _ _ _ _ _ _ _ _ _ _ _ rfl hq)
theorem kd8 (s r:W) (m:Bool) (hr:r.length≤999999) (hq:bK s=wm 8 m r):oK s r m 0 8 0 0 0 0 [] [.int .i64 0,.int .i64 1] 0:=by
 have h1:=ou m r;exact xg s r m 0 8 0 0 0 0 [] [.int .i64 0,.int .i64 1] 0 (by omega) rfl hr (CW _ _ _ _ _ _ _ _ _ _ _ 1 (by omega) rfl (by omega) (jT _ _ _ _ _ _ _ _ _ _ _ _ rfl hq))
theorem kd6 (s r:W) (m:Bool) (hr:r.length≤999999) (hq:bK s=wm 6 m r):oK s r m 0 6 0 0 0 0 [] Xa 0:=by
 have h1:=ou m r;have h2:=ou (fD m r) (gH m r);refine CW s r m 0 6 0 0 0 0 [] Xa 0 (by omega) rfl hr (Mv _ _ _ _ _ _ _ _ _ _ _ 1 (by omega) rfl (by omega) ?_);obtain ⟨q,e⟩:∃q,lN (fD (fD m r) (gH m r)) (gH (fD m r) (gH m r))=q:=⟨_,rfl⟩;have hq:bK s=ay.stop { kind:=6,n:=lN m r,at_:=lN (fD m r) (gH m r),x:=lN (fD (fD m r) (gH m r)) (gH (fD m r) (gH m r)) % 256 } (fD (fD (fD m r) (gH m r)) (gH (fD m r) (gH m r))) (if lN (fD (fD m r) (gH m r)) (gH (fD m r) (gH m r)) < 0∨lN (fD (fD m r) (gH m r)) (gH (fD m r) (gH m r)) > 255 then kZ (oJ (fD (fD m r) (gH m r)) (gH (fD m r) (gH m r)) (oJ (fD m r) (gH m r) (oJ m r 0))) 5 else oJ (fD (fD m r) (gH m r)) (gH (fD m r) (gH m r)) (oJ (fD m r) (gH m r) (oJ m r 0))):=hq;rw [e] at hq;have hx:IntKind.u8.wrap q=q % 256:=by rw [IntKind.wrap_u8]
 by_cases g1:q < 0
 ·rw [if_pos (.inl g1),←hx] at hq;exact Mw _ _ _ _ _ _ _ _ _ _ _ 2 (by omega) rfl (by omega) q e g1 (jT _ _ _ _ _ _ _ _ _ _ _ _ rfl hq)
 ·by_cases g2:255 < q
  ·rw [if_pos (.inr g2),←hx] at hq;exact Mx _ _ _ _ _ _ _ _ _ _ _ 2 (by omega) rfl (by omega) q e g1 g2 (jT _ _ _ _ _ _ _ _ _ _ _ _ rfl hq)
  ·rw [if_neg (by omega),←hx] at hq;exact MB _ _ _ _ _ _ _ _ _ _ _ 2 (by omega) rfl (by omega) q e g1 g2 (jT _ _ _ _ _ _ _ _ _ _ _ _ rfl hq)
theorem kd7 (s r:W) (m:Bool) (hr:r.length≤999999) (hq:bK s=wm 7 m r):oK s r m 0 7 0 0 0 0 [] [.int .i64 0,.int .i64 1,.int .i64 4] 0:=by
 have h1:=ou m r;have h2:=ou (fD m r) (gH m r);refine xg s r m 0 7 0 0 0 0 [] [.int .i64 0,.int .i64 1,.int .i64 4] 0 (by omega) rfl hr (CW _ _ _ _ _ _ _ _ _ _ _ 1 (by omega) rfl (by omega) ?_);obtain ⟨w,e⟩:∃w,oL (fD (fD m r) (gH m r)) (gH (fD m r) (gH m r))=w:=⟨_,rfl⟩
 have hq:bK s=match uf (oL (fD (fD m r) (gH m r)) (gH (fD m r) (gH m r))) with
  | some x=>ay.stop { kind:=7,node:=lN m r,n:=lN (fD m r) (gH m r),x:=x } (fD (fD (fD m r) (gH m r)) (gH (fD m r) (gH m r))) (wh (fD (fD m r) (gH m r)) (oJ (fD m r) (gH m r) (oJ m r 0)))
  | none=>ay.stop { kind:=7,node:=lN m r,n:=lN (fD m r) (gH m r) } (fD (fD (fD m r) (gH m r)) (gH (fD m r) (gH m r))) (kZ (wh (fD (fD m r) (gH m r)) (oJ (fD m r) (gH m r) (oJ m r 0))) 6):=hq
 rw [e] at hq;by_cases g1:w=[105,111]
 ·have hw:uf w=some 1:=by unfold uf;rw [if_pos g1]
  rw [hw] at hq;exact Px _ _ _ _ _ _ _ _ _ _ _ 2 (by omega) rfl (by omega) (e.trans g1) (jT _ _ _ _ _ _ _ _ _ _ _ _ rfl hq)
 ·by_cases g2:w=[115,112,97,99,101]
  ·have hw:uf w=some 0:=by unfold uf;rw [if_neg g1,if_pos g2]
   rw [hw] at hq;exact Py _ _ _ _ _ _ _ _ _ _ _ 2 (by omega) rfl (by omega) (e.trans g2) (jT _ _ _ _ _ _ _ _ _ _ _ _ rfl hq)
  ·have hw:uf w=none:=by unfold uf;rw [if_neg g1,if_neg g2]
   rw [hw] at hq;exact Pz _ _ _ _ _ _ _ _ _ _ _ 2 (by omega) rfl (by omega) (by rw [e];exact g1) (by rw [e];exact g2) (jT _ _ _ _ _ _ _ _ _ _ _ _ rfl hq)
theorem kd9 (s r:W) (m:Bool) (hr:r.length≤999999) (hq:bK s=wm 9 m r):oK s r m 0 9 0 0 0 0 [] [.int .i64 0,.int .i64 5] 0:=by
 have h1:=ou m r;refine xg s r m 0 9 0 0 0 0 [] [.int .i64 0,.int .i64 5] 0 (by omega) rfl hr ?_;have hq:bK s=if fD m r=true then ay.stop { kind:=9,node:=lN m r,keep:=kL (oL (fD m r) (gH m r)) } (fD (fD m r) (gH m r)) (if mU (oL (fD m r) (gH m r))=true then oJ m r 0 else kZ (oJ m r 0) 6) else ay.stop { kind:=9,node:=lN m r } (fD m r) (oJ m r 0):=hq;cases hm:fD m r with
 | false=>
   rw [hm] at hq;exact MC _ _ _ _ _ _ _ _ _ _ _ 1 (by omega) rfl (by omega) rfl (jT _ _ _ _ _ _ _ _ _ _ _ _ rfl hq)
 | true=>
   rw [hm,if_pos rfl] at hq;refine PE _ _ _ _ _ _ _ _ _ _ _ 1 (by omega) rfl (by omega) rfl _ rfl fun ks hks=>?_;refine PD _ _ _ _ _ _ _ _ _ _ (kL (oL true (gH m r))) _ _ _ rfl hq fun h=>?_;refine ⟨hks h,?_⟩;intro h0;split at h
   ·rename_i hk;unfold mU at hk;rw [Bool.and_eq_true] at hk
    have:oL true (gH m r)=[]:=List.map_eq_nil_iff.1 h0
    rw [this] at hk;exact absurd hk.1 (by simp)
   ·exact JD _ h
theorem jY:∀(r:W) (c:UInt8),0≤Lib.indexByte r c↔c∈r
 | [],c=>by simp [Lib.indexByte]
 | b::l,c=>by
   unfold Lib.indexByte;by_cases h:b=c
   ·subst h;simp
   ·rw [if_neg (by simpa using h)];have ih:=jY l c;by_cases h1:Lib.indexByte l c = -1
    ·rw [if_pos (by simp [h1])]
     have:¬c∈l:=fun hm=>by have:=ih.2 hm;omega
     simp [Ne.symm h,this]
    ·rw [if_neg (by simpa using h1)];have h2:-1≤Lib.indexByte l c:=Lib.indexByte_ge l c
     have:c∈l:=ih.1 (by omega)
     simp [this];omega
theorem kd1 (s r:W) (m:Bool) (hr:r.length≤999999) (hq:bK s=if m=false∨(10:UInt8)∈r then ({},6) else ({ kind:=1,text:=r },0)):oK s r m 0 1 0 0 0 0 [] [.int .i64 6] 0:=by
 cases hm:m with
 | false=>
   rw [if_pos (.inl hm)] at hq;exact ME s r false 0 1 0 0 0 0 [] [.int .i64 6] 0 (by omega) rfl hr rfl (jT _ _ _ _ _ _ _ _ _ _ _ _ rfl hq)
 | true=>
   by_cases h:(10:UInt8)∈r
   ·rw [if_pos (.inr h)] at hq;exact MF s r true 0 1 0 0 0 0 [] [.int .i64 6] 0 (by omega) rfl hr rfl ((jY r 10).2 h) (jT _ _ _ _ _ _ _ _ _ _ _ _ rfl hq)
   ·rw [if_neg (by simp [hm,h])] at hq;exact MG s r true 0 1 0 0 0 0 [] [.int .i64 6] 0 (by omega) rfl hr rfl (fun g=>h ((jY r 10).1 g)) (jT _ _ _ _ _ _ _ _ _ _ _ _ rfl hq)
set_option maxHeartbeats 2000000 in
theorem PG (s r:W) (m:Bool) (e kd:Int) (he:e=0) (hq:bK s=ay.stop { kind:=kd } m e):WK Tryz.prog 0 (aF mV 1) (yO r m e (iw kd 0 0 0 0 [] (.d (.aC 0 [] true)))).den (gZ s):=by
 have ok:=aJ fu;cases hm:m with
 | true=>
   have hb:(kZ e 6 != 0)=true:=bne_iff_ne.2 (JD e);rw [hm,vw] at hq;exact WK.fin ok 1000 0 [(54,aj false),(139,aj true),(143,aj true)] [true] [(aj false,aj false),(aj true,aj true),(aj (Go.ay.kZ e (6) != 0),aj true)] rfl (by kernel_rfl:au (bG qP) true _ 1000 0 _ _ (yO r true e (iw kd 0 0 0 0 [] (.d (.aC 0 [] true))))=some (RV.bn [RV.d (DV.agg [aI (0),aI (0),aI (0),aI (0),aU (0),DV.str [],DV.aC 0 [] true]),aK (Go.ay.kZ e (6))],[],_,_)) ⟨(by rfl),trivial⟩ (by refine ⟨?_,?_,?_,trivial⟩<;>(first | exact ah rfl | exact ah hb)) ⟨by rw [hq];rfl,rfl⟩
 | false=>
   have hb:(e != 0)=false:=by rw [he];rfl
   rw [hm,he,fP] at hq;exact WK.fin ok 1000 0 [(54,aj false),(139,aj false),(143,aj false)] [] [(aj false,aj false),(aj false,aj false),(aj (e != 0),aj false)] rfl (by kernel_rfl:au (bG qP) true _ 1000 0 _ _ (yO r false e (iw kd 0 0 0 0 [] (.d (.aC 0 [] true))))=some (RV.bn [RV.d (DV.agg [aI kd,aI 0,aI 0,aI 0,aU 0,DV.str [],DV.aC 0 [] true]),aK (0)],[],_,_)) trivial (by refine ⟨?_,?_,?_,trivial⟩<;>(first | exact ah rfl | exact ah hb)) ⟨by rw [hq];rfl,rfl⟩
theorem QT (s r:W) (m:Bool) (kd:Int) (hq:bK s=ay.stop { kind:=kd } m 0):WK Tryz.prog 0 (aF mV 1) (yO r m 0 (iw kd 0 0 0 0 [] (.d (.aC 0 [] true)))).den (gZ s):=PG s r m 0 kd rfl hq
set_option maxHeartbeats 2000000 in
theorem MI (s f r:W) (m:Bool) (kd:Int) (fs:List DV) (hk:kd≠0) (hn:oK s r m 0 kd 0 0 0 0 [] fs 0):WK Tryz.prog 0 (aF mV 0) (ow f r m kd (.aC 1 fs false) (15:Nat)).den (gZ s):=by
 have ok:=aJ fu;have hb:(kd==0)=false:=beq_false_of_ne hk;refine WK.eF ok 1000 0 [(30,aj false),(46,aj false)] [] [2,5,6,7,12,13,14,15,51,52,53] [] [(aj false,aj false),(aj (kd==0),aj false)] rfl (by kernel_rfl:bq (bG qP) 1000 0 _ _ _ _ (ow f r m kd (.aC 1 fs false) (15:Nat))=some (aF mV 1,iR r m 0 (iw kd 0 0 0 0 [] (.d (.aC 0 [] true))) fs (0:Nat),_,_)) trivial (by refine ⟨?_,?_,trivial⟩<;>(first | exact ah rfl | exact ah hb)) ?_
 exact hn
theorem kM (s f r:W) (m:Bool) (k:Nat) (fs:List DV) (hk:k≠0) (hn:oK s r m 0 (k:Int) 0 0 0 0 [] fs 0):WK Tryz.prog 0 (aF mV 0) (ow f r m (k:Int) (.aC 1 fs false) (15:Nat)).den (gZ s):=
 MI s f r m (k:Int) fs (by omega) hn
set_option maxHeartbeats 2000000 in
theorem JE (s f r:W) (m:Bool) (kd:Int) (hk:kd≠0) (hn:WK Tryz.prog 0 (aF mV 1) (yO r m 0 (iw kd 0 0 0 0 [] (.d (.aC 0 [] true)))).den (gZ s)):WK Tryz.prog 0 (aF mV 0) (ow f r m kd (.aC 0 [] true) (15:Nat)).den (gZ s):=by
 have ok:=aJ fu;have hb:(kd==0)=false:=beq_false_of_ne hk;refine WK.eF ok 1000 0 [(30,aj false),(46,aj false)] [] [2,5,6,7,12,13,14,15,51,52,53] [] [(aj false,aj false),(aj (kd==0),aj false)] rfl (by kernel_rfl:bq (bG qP) 1000 0 _ _ _ _ (ow f r m kd (.aC 0 [] true) (15:Nat))=some (aF mV 1,yO r m 0 (iw kd 0 0 0 0 [] (.d (.aC 0 [] true))),_,_)) trivial (by refine ⟨?_,?_,trivial⟩<;>(first | exact ah rfl | exact ah hb)) ?_
 exact hn
theorem Iy (s f r:W) (m:Bool) (k:Nat) (hk:k≠0) (hn:WK Tryz.prog 0 (aF mV 1) (yO r m 0 (iw k 0 0 0 0 [] (.d (.aC 0 [] true)))).den (gZ s)):WK Tryz.prog 0 (aF mV 0) (ow f r m (k:Int) (.aC 0 [] true) (15:Nat)).den (gZ s):=
 JE s f r m (k:Int) (by omega) hn
set_option maxHeartbeats 2000000 in
theorem PI (s f r:W) (m:Bool) (fd:DV) (hq:bK s=({},6)):WK Tryz.prog 0 (aF mV 0) (ow f r m (0:Nat) fd (15:Nat)).den (gZ s):=by
 have ok:=aJ fu;exact WK.fin ok 1000 0 [(30,aj false),(46,aj true)] [] [(aj false,aj false),(aj ((0:Int)==0),aj true)] rfl (by kernel_rfl:au (bG qP) true _ 1000 0 _ _ (ow f r m (0:Nat) fd (15:Nat))=some (RV.bn [RV.d (DV.agg [aI (0),aI (0),aI (0),aI (0),aU (0),DV.str [],DV.aC 0 [] true]),aK (6)],[],_,_)) trivial (by refine ⟨?_,?_,trivial⟩<;>(exact ah rfl)) ⟨by rw [hq];rfl,rfl⟩
theorem PK {s:W} {k:Nat} (h:kindOf (ay.cut s).1=k+2):bK s=wm (k+2) (ay.cut s).2.2 (ay.cut s).2.1:=by
 unfold bK;rw [h];rfl
theorem SG (s f r:W) (m:Bool) (hf:(ay.cut s).1=f) (hr' : (ay.cut s).2.1=r) (hm' : (ay.cut s).2.2=m) (hr:r.length≤999999):WK Tryz.prog 0 (aF mV 0) (ow f r m (kindOf f:Nat) (Dl (kindOf f)) (15:Nat)).den (gZ s):=by
 have hle:=AB f;have hP:∀k,kindOf f=k+2→bK s=wm (k+2) m r:=fun k h=>by rw [PK (k:=k) (by rw [hf];exact h),hr',hm']
 have h0:kindOf f=0→bK s=({},6):=fun h=>by unfold bK;rw [hf,h];rfl
 have h1:kindOf f=1→bK s=if m=false∨(10:UInt8)∈r then ({},6) else ({ kind:=1,text:=r },0):=fun h=>by unfold bK;rw [hf,h,hr',hm'];rfl
 generalize kindOf f=k at *
 match k,hle with
 | 0,_=>exact PI s f r m _ (h0 rfl)
 | 1,_=>exact kM s f r m 1 _ (by decide) (kd1 s r m hr (h1 rfl))
 | 2,_=>exact kM s f r m 2 _ (by decide) (Iw s r m 2 hr (hP 0 rfl))
 | 3,_=>exact kM s f r m 3 _ (by decide) (yP s r m 3 hr (hP 1 rfl))
 | 4,_=>exact kM s f r m 4 _ (by decide) (yP s r m 4 hr (hP 2 rfl))
 | 5,_=>exact kM s f r m 5 _ (by decide) (yP s r m 5 hr (hP 3 rfl))
 | 6,_=>exact kM s f r m 6 _ (by decide) (kd6 s r m hr (hP 4 rfl))
 | 7,_=>exact kM s f r m 7 _ (by decide) (kd7 s r m hr (hP 5 rfl))
 | 8,_=>exact kM s f r m 8 _ (by decide) (kd8 s r m hr (hP 6 rfl))
 | 9,_=>exact kM s f r m 9 _ (by decide) (kd9 s r m hr (hP 7 rfl))
 | 10,_=>exact kM s f r m 10 _ (by decide) (Iw s r m 10 hr (hP 8 rfl))
 | 11,_=>exact Iy s f r m 11 (by decide) (QT s r m 11 (hP 9 rfl))
 | 12,_=>exact kM s f r m 12 _ (by decide) (yP s r m 12 hr (hP 10 rfl))
 | 13,_=>exact Iy s f r m 13 (by decide) (QT s r m 13 (hP 11 rfl))
 | 14,_=>exact kM s f r m 14 _ (by decide) (yP s r m 14 hr (hP 12 rfl))
 | k+15,h=>omega
theorem PL:∀k:Nat,k < 15→1≤k→kindOf (kw k)=k:=by decide +kernel
set_option maxHeartbeats 4000000 in
theorem Iz (s f r:W) (m:Bool) (kd:Int) (fd:DV) (i:Nat) (h1:1≤i∧i≤14) (b:Bool) (hb:(JB (Nat.cast (R:=Int) i)==f)=b)
 (hn:WK Tryz.prog 0 (aF mV 0) (ow f r m (if b then (i:Int) else kd) (if b then Dl i else fd) ((i+1:Nat):Int)).den (gZ s)):WK Tryz.prog 0 (aF mV 0) (ow f r m kd fd (i:Int)).den (gZ s):=by
 have ok:=aJ fu;have c1:decide ((1:Int)≤(Nat.cast (R:=Int) i)∧(Nat.cast (R:=Int) i)≤14)=true:=decide_eq_true (by omega);have vs:=dn (i:=i) (by omega);cases b with
 | true=>
   simp only [if_true] at hn;refine WK.eF ok 1000 0 [(30,aj true),(40,aj true),(32,aK ((i+1:Nat):Int))] [] [2,4,5,6,7,8,9] [decide (1≤(i:Int)∧(i:Int)≤14)] [(aj (decide ((i:Int)≤14)),aj true),(aj (Go.Proofs.YtjoefbioobdinaaGreatDoor.JB (i:Int)==f),aj true),(aK (IntKind.i64.wrap ((i:Int)+1)),aK ((i+1:Nat):Int))] rfl (by kernel_rfl:bq (bG qP) 1000 0 _ _ _ _ (ow f r m kd fd (i:Int))=some (aF mV 0,ow f r m (i:Int) (Dl i) ((i+1:Nat):Int),_,_)) ⟨(by first | rfl | exact c1),trivial⟩ (by refine ⟨?_,?_,?_,trivial⟩<;>(first | exact ah rfl | exact ah hb | exact vs | exact ah (decide_eq_true (by omega)))) ?_
   exact hn
 | false=>
   simp only [Bool.false_eq_true,if_false] at hn;refine WK.eF ok 1000 0 [(30,aj true),(40,aj false),(32,aK ((i+1:Nat):Int))] [] [2,4,5,6,7,8,9] [decide (1≤(i:Int)∧(i:Int)≤14)] [(aj (decide ((i:Int)≤14)),aj true),(aj (Go.Proofs.YtjoefbioobdinaaGreatDoor.JB (i:Int)==f),aj false),(aK (IntKind.i64.wrap ((i:Int)+1)),aK ((i+1:Nat):Int))] rfl (by kernel_rfl:bq (bG qP) 1000 0 _ _ _ _ (ow f r m kd fd (i:Int))=some (aF mV 0,ow f r m kd fd ((i+1:Nat):Int),_,_)) ⟨(by first | rfl | exact c1),trivial⟩ (by refine ⟨?_,?_,?_,trivial⟩<;>(first | exact ah rfl | exact ah hb | exact vs | exact ah (decide_eq_true (by omega)))) ?_
   exact hn
def upTo (K k:Nat):Nat:=if K < k then K else 0
set_option maxHeartbeats 4000000 in
theorem PN (s f r:W) (m:Bool) (hf:(ay.cut s).1=f) (hr' : (ay.cut s).2.1=r) (hm' : (ay.cut s).2.2=m) (hr:r.length≤999999):WK Tryz.prog 0 (aF mV 0) (ow f r m (0:Nat) (Dl 0) (1:Nat)).den (gZ s):=by
 have ok:=aJ fu;have e0:upTo (kindOf f) 1=0:=by unfold upTo;split<;>omega
 suffices h:WK Tryz.prog 0 (aF mV 0) (ow f r m (upTo (kindOf f) 1:Nat) (Dl (upTo (kindOf f) 1)) (1:Nat)).den (gZ s) by
  rw [e0] at h;exact h
 refine WK.rec' (fun k:Nat=>ow f r m (upTo (kindOf f) k:Nat) (Dl (upTo (kindOf f) k)) (k:Int)) (fun k=>1≤k∧k≤15) (fun k=>15-k) ?_ 1 ⟨by omega,by omega⟩
 ·rintro k ⟨h1,h2⟩ ih
  have hle:=AB f;by_cases h15:k=15
  ·have hn:=SG s f r m hf hr' hm' hr;have e:upTo (kindOf f) k=kindOf f:=by unfold upTo;rw [if_pos (by omega)]
   rw [e,h15];exact hn
  ·have hn:=ih (k+1) ⟨by omega,by omega⟩ (by omega);by_cases hk:kindOf f=k
   ·have e1:upTo (kindOf f) (k+1)=k:=by unfold upTo;rw [if_pos (by omega),hk]
    have e2:JB (Nat.cast (R:=Int) k)=f:=(Js hk (by omega)).symm;have hb:(JB (Nat.cast (R:=Int) k)==f)=true:=by rw [e2];simp
    rw [e1] at hn;exact Iz s f r m _ _ k ⟨h1,by omega⟩ true hb hn
   ·have e1:upTo (kindOf f) (k+1)=upTo (kindOf f) k:=by
     unfold upTo;by_cases g:kindOf f < k
     ·rw [if_pos g,if_pos (by omega)]
     ·rw [if_neg g,if_neg (by omega)]
    have hb:(JB (Nat.cast (R:=Int) k)==f)=false:=beq_false_of_ne fun h=>hk (by
     have h:kw k=f:=h;rw [←h];exact PL k (by omega) h1)
    rw [e1] at hn;exact Iz s f r m _ _ k ⟨h1,by omega⟩ false hb hn
set_option maxHeartbeats 2000000 in
theorem rd_c (s:W) (hs:s.length≤999999):Go.Am.C Tryz.prog 7 [.d (.str s)] [] (fun q o=>q=WZ (bK s)∧o=[]):=by
 have ok:=aJ fu;refine aH (fn:=Tryz.f7) (body:=mV) true (by kernel_rfl) (by kernel_rfl) (by kernel_rfl) ?_;obtain ⟨f,hf⟩:∃f,(ay.cut s).1=f:=⟨_,rfl⟩;obtain ⟨r,hr⟩:∃r,(ay.cut s).2.1=r:=⟨_,rfl⟩;obtain ⟨m,hm⟩:∃m,(ay.cut s).2.2=m:=⟨_,rfl⟩;have hl:r.length≤999999:=by rw [←hr];have:=(w9 s).2;omega
 have c1:decide (s.length≤1000000)=true:=decide_eq_true (by omega);have hn:=PN s f r m hf hr hm hl;refine WK.eF ok 1000 0 [(25,aR f),(26,aR r),(27,aj m)] [] [2,4,5,6,7,8,9] [decide (List.length s≤1000000)] [(aR (Go.ay.cut s).1,aR f),(aR (Go.ay.cut s).snd.1,aR r),(aj (Go.ay.cut s).snd.2,aj m)] rfl (by kernel_rfl:bq (bG qP) 1000 0 _ _ _ _ (bV 147 [.d (.str s)] [])=some (aF mV 0,ow f r m (0:Nat) (Dl 0) (1:Nat),_,_)) ⟨(by first | rfl | exact c1),trivial⟩ (by refine ⟨?_,?_,?_,trivial⟩<;>(first | exact ah rfl | exact .of_eq (by rw [hf]) | exact .of_eq (by rw [hr]) | exact .of_eq (by rw [hm]))) ?_
 exact hn
def ZO:DV→Option (RV×List Bool)
 | .str s=>some (WZ (bK s),[decide (s.length≤999999)])
 | _=>none
theorem SH:cK Tryz.prog 7 (Ay ZO):=by
 refine oo fun x y c hg hc=>?_;unfold ZO at hg;split at hg
 ·rename_i s;simp only [Option.some.injEq,Prod.mk.injEq] at hg;obtain ⟨rfl,rfl⟩:=hg;exact rd_c s (of_decide_eq_true (hc _ (by simp:decide (s.length≤999999)∈[decide (s.length≤999999)])))
 ·cases hg
def tdR (k n:Int) (s:W):VR:=if s.length≤1000 then (k,n,s,0) else (0,0,[],3)
theorem bkY {a:UInt8} {k:Nat} (hk:k < 256) (h:a=UInt8.ofNat k):((Nat.cast (R:=Int) a.toNat)==(k:Int))=true:=by
 rw [h,ay.lM hk];simp
theorem bkN {a:UInt8} {k:Nat} (hk:k < 256) (h:a≠UInt8.ofNat k):((Nat.cast (R:=Int) a.toNat)==(k:Int))=false:=by
 refine beq_false_of_ne fun e=>h (UInt8.toNat_inj.1 ?_);rw [ay.lM hk];omega
theorem ZP (k:Int) (b:W):Ik k 6 3 (some b)=tdR k 0 b:=rfl
end Go.Proofs.YtjoefbioobdinaaGreatDoor
namespace Go.Proofs.YtjoefbioobdinaaGreatDoor.Bd
open Go.RowKit Am
set_option maxRecDepth 100000
theorem uj:(Tryz.prog.info? 135).map (fun i=>decide (i.size≠0))=some true:=by kernel_rfl
theorem CX:liesAt Tryz.prog Tryz.prog.depth 135 (2 / Tryz.prog.cellsOf 135) 0 135 1=true:=by kernel_rfl
theorem CY:Tryz.prog.cellsOf 5=1:=by kernel_rfl
set_option maxHeartbeats 1000000 in
theorem Gp (b:Nat) (w:World) (h0:w.cell? ⟨b,0,none⟩=some (.pointer (some ⟨b,0,none⟩))) :
 Calls Tryz.prog 144 #[.pointer (some ⟨b,0,none⟩)] w fun e w'=>e = .returned (.tuple #[])∧w'=w:=by
 obtain ⟨j,hj,_⟩:=Option.map_eq_some_iff.1 uj
 go_enter Tryz.func144,Tryz.ntmps144
 go_wp2
 rw [Lib.run_neq_ptr_same w _ Tryz.underlying133 hj]
 go_wp2
 go_end0
 exact ⟨rfl,rfl⟩
set_option maxHeartbeats 1000000 in
theorem CZ (b:Nat) (w:World) (h0:w.cell? ⟨b,0,none⟩=some (.pointer none)) (hsh:w.shape? b=some (135,2)) (hfz:w.frozen? ⟨b,0,none⟩=false) :
 Calls Tryz.prog 144 #[.pointer (some ⟨b,0,none⟩)] w fun e w'=>e = .returned (.tuple #[])∧w'=w.setCell ⟨b,0,none⟩ (.pointer (some ⟨b,0,none⟩)):=by
 obtain ⟨j,hj,hjs⟩:=Option.map_eq_some_iff.1 uj
 go_enter Tryz.func144,Tryz.ntmps144
 go_wp2
 rw [Lib.run_to_unsafe w ⟨b,0,none⟩ Tryz.underlying133 Tryz.underlying302 hj (by simpa using hjs) hsh (Nat.zero_lt_succ 1)];simp only [Result.andThen];rw [Oper.upon_value]
 go_wp2
 rw [run_callFunc_extern Tryz.func204 (by kernel_rfl) (by kernel_rfl) (by kernel_rfl) (e:=Extern.AbiNoEscape.same) (by kernel_rfl)];rw [Lib.run_noEscape];simp only [Result.andThen];rw [Oper.upon_value]
 go_wp2
 rw [Lib.run_from_unsafe w ⟨b,0,none⟩ Tryz.underlying302 Tryz.underlying133 hj hsh CX];simp only [Result.andThen];rw [Oper.upon_value]
 go_wp2
 go_end0
 exact ⟨rfl,rfl⟩
set_option maxHeartbeats 2000000 in
theorem C8 (b g cap n0:Nat) (l:List UInt8) (p:Value) (w:World) (Q:World→Prop) (fz:Nat×Nat) (cur:Array Value) (hne:l≠[]) (hcap:l.length≤cap) (h63:l.length≤9223372036854775807)
 (hb:w.heap[b]? = some (.cells #[p,.slice (some ⟨g,0,none⟩) l.length cap] 135 (0,0))) (hg:w.heap[g]? = some (.cells cur 5 fz)) (hsz:cur.size=n0) (hn0:l.length≤n0)
 (hcell:∀(j:Nat) (y:UInt8),l[j]? = some y→w.cell? ((⟨g,0,none⟩:Addr).add j)=some (.int .u8 y.toNat)) (hQ:Q (w.drew.freeze ⟨g,0,none⟩ l.length)) :
 Calls Tryz.prog 90 #[.pointer (some ⟨b,0,none⟩)] w fun e w'=>e = .returned (.string ⟨l.toArray⟩)∧Q w':=by
 have hpos:0 < l.length:=List.length_pos_iff.2 hne
 have c1:w.drew.cell? ⟨b,1,none⟩=some (.slice (some ⟨g,0,none⟩) l.length cap):=by
  have:w.drew.heap[b]? = some (.cells #[p,.slice (some ⟨g,0,none⟩) l.length cap] 135 (0,0)):=hb
  rw [Lib.cell_of_heap this];rfl
 have hSD:(Builtin.unsafeSliceData_ #[130] 212 #[.slice (some ⟨g,0,none⟩) l.length cap]).run Tryz.prog w.drew = .ok (.pointer (some ⟨g,0,none⟩)) w.drew:=
  Lib.run_unsafeSliceData_row _ _ _ _ _ _ (by omega)
 have hUS:(Builtin.unsafeString_ #[212,3] 9 #[.pointer (some ⟨g,0,none⟩),.int .i64 l.length]).run Tryz.prog w.drew = .ok (.string ⟨l.toArray⟩) (w.drew.freeze ⟨g,0,none⟩ l.length):=
  Lib.run_unsafeString_row w.drew _ _ _ 5 Tryz.underlying212 CY g cur.size (by have hg' : w.drew.heap[g]? = some (.cells cur 5 fz):=hg;simp [World.shape?,hg']) l hne (by omega) h63 hcell
 have HQ:=Lib.hid hQ;clear hQ hcell hg hb hsz hn0 hcap h63 hne hpos
 go_enter Tryz.func90,Tryz.ntmps90
 go_wp2
 go_region
 all_goals (go_wp2;go_ret;exact ⟨rfl,HQ.out⟩)
set_option maxHeartbeats 2000000 in
theorem C9 (b:Nat) (p:Value) (w:World) (Q:World→Prop) (hb:w.heap[b]? = some (.cells #[p,.slice none 0 0] 135 (0,0))) (hQ:Q w.drew) :
 Calls Tryz.prog 90 #[.pointer (some ⟨b,0,none⟩)] w fun e w'=>e = .returned (.string ⟨#[]⟩)∧Q w':=by
 have hUS:∀W:World,(Builtin.unsafeString_ #[212,3] 9 #[.pointer none,.int .i64 0]).run Tryz.prog W = .ok (.string .empty) W:=fun W=>Lib.run_unsafeString_none W _ _ _ none
 have c1:w.drew.cell? ⟨b,1,none⟩=some (.slice none 0 0):=by
  have:w.drew.heap[b]? = some (.cells #[p,.slice none 0 0] 135 (0,0)):=hb
  rw [Lib.cell_of_heap this];rfl
 have hSD:(Builtin.unsafeSliceData_ #[130] 212 #[.slice none 0 0]).run Tryz.prog w.drew = .ok (.pointer none) w.drew:=rfl;have HQ:=Lib.hid hQ;clear hb hQ
 go_enter Tryz.func90,Tryz.ntmps90
 go_wp2
 go_region
 all_goals (go_wp2;go_ret;exact ⟨rfl,HQ.out⟩)
theorem jB {c:Array Value} (h:c.size=2):∃x y,c = #[x,y]:=by
 refine ⟨c[0],c[1],?_⟩;apply Array.ext
 ·simpa using h
 ·intro i h1 h2
  have:i=0∨i=1:=by simp at h2;omega
  rcases this with rfl | rfl<;>rfl
theorem yQ (p q:av) (r:List av):bF (aV (p::r)) 0 (some q)=aV (q::r):=by
 funext i;cases i with
 | zero=>simp [bF,aV]
 | succ i=>simp [bF,aV]
theorem yR (p q q' : av) (r:List av):bF (aV (p::q::r)) 1 (some q')=aV (p::q'::r):=by
 funext i
 match i with
 | 0=>simp [bF,aV]
 | 1=>simp [bF,aV]
 | i+2=>simp [bF,aV]
theorem Gq (x y:RV) (r:List av) (hx:x = .d .aG∨x = .ptr 0 0):C Tryz.prog 144 [.ptr 0 0] (.box 135 [x,y]::r) (fun v o=>v = .d (.bn [])∧o = .box 135 [.ptr 0 0,y]::r):=by
 intro κ φ w vs h1 h2 h3 h4;have hs:vs.size=1:=by simpa using h3
 have e1:vs[0]? = some vs[0]:=by simp [show 0 < vs.size by omega]
 have r0:=h4 0 _ _ rfl e1
 have hvs:vs = #[vs[0]]:=by
  apply Array.ext
  ·simpa using hs
  ·intro i hi hi2;simp at hi2;subst hi2;rfl
 rw [hvs];generalize vs[0]=v0 at r0;clear e1 hvs;cases r0 with
 | ptr hφ=>
 rename_i b;have ho:=h1 0;have et:aV (av.box 135 [x,y]::r) 0=some (.box 135 [x,y]):=rfl;rw [et] at ho;obtain ⟨b',c,g1,g2,g3,g4,g5,g6⟩:=ho;rw [g1] at hφ;injection hφ with hφ;subst hφ;obtain ⟨c0,c1,rfl⟩:=jB (by simpa using g4);have q0:=g6 0 x c0 rfl rfl;have q1:=g6 1 y c1 rfl rfl;have F:=ko h1 h2;rcases hx with rfl | rfl
 ·cases q0 with
  | d hr=>
  cases hr;refine (CZ b' w (by rw [Lib.cell_of_heap g3];rfl) (by simp [World.shape?,g3]) (Lib.frozen_of_heap g3 0)).mono ?_
  rintro e w' ⟨rfl,rfl⟩
  rw [lX g3]
  obtain ⟨p1,p2,p3⟩:=F.write (i:=0) (p:=.box 135 [.ptr 0 0,y]) (o:=.cells #[.pointer (some ⟨b',0,none⟩),c1] 135 (0,0)) g2 g1
   (fun c ty fz hh=>by rw [g3] at hh;injection hh with hh;injection hh with a1 a2 a3;subst a1;subst a2;exact ⟨_,_,rfl,rfl⟩) (fun n hn=>by simp [av.dB] at hn)
   (fun M=>⟨b',_,g1,g2,dL g3,rfl,fun v hv=>by
     simp at hv;rcases hv with rfl | rfl
     ·rfl
     ·exact g5 _ (by simp),fun j x v hx hv=>by
     match j,hx,hv with
     | 0,hx,hv=>simp at hx hv;subst hx;subst hv;exact .ptr g1
     | 1,hx,hv=>simp at hx hv;subst hx;subst hv;exact q1.mono M
     | j+2,hx,hv=>simp at hx⟩)
  have JF:bF (aV (av.box 135 [.d .aG,y]::r)) 0 (some (.box 135 [.ptr 0 0,y]))=aV (.box 135 [.ptr 0 0,y]::r):=yQ _ _ _;simp only [JF] at p1 p2;exact ⟨_,_,_,κ,φ,rfl,⟨rfl,rfl⟩,.d (.bn rfl (by simp)),p1.objs,p1.bnd,by simp,p3,p2.kp⟩
 ·cases q0 with
  | ptr hp=>
  rename_i b2
  have:b2=b':=by rw [g1] at hp;injection hp with hp;exact hp.symm
  subst this;refine (Gp b2 w (by rw [Lib.cell_of_heap g3];rfl)).mono ?_
  rintro e w' ⟨rfl,rfl⟩
  exact ⟨_,_,_,κ,φ,rfl,⟨rfl,rfl⟩,.d (.bn rfl (by simp)),h1,h2,by simp,Fr.refl _ _,Kp.refl _ _⟩
def EY:DV→Bool
 | .int .u8 n=>decide (0≤n∧n < 256)
 | _=>false
theorem pO {x:DV} (h:EY x=true):x = .int .u8 (x.byte.toNat:Int):=by
 unfold EY at h;split at h
 ·rename_i n;simp only [decide_eq_true_eq] at h;simp only [DV.byte,DV.int.injEq,true_and]
  have:n.toNat < 256:=by omega
  rw [UInt8.toNat_ofNat_of_lt' (by simpa using this)];omega
 ·cases h
theorem EI {x:DV} (h:EY x=true):x.cells=[x]:=by rw [pO h];rfl
theorem MJ (p:RV) (els:List DV) (r:List av) (hb:els.all EY=true) (hne:els≠[]) (hbig:els.length≤1099511627776):C Tryz.prog 90 [.ptr 0 0] (.box 135 [p,.own 1 1] :: .arr 5 1 els::r)
 (fun v o=>v = .d (.str (els.map DV.byte))∧o = .box 135 [p,.own 1 1] :: .gone::r):=by
 intro κ φ w vs h1 h2 h3 h4;have hs:vs.size=1:=by simpa using h3
 have e1:vs[0]? = some vs[0]:=by simp [show 0 < vs.size by omega]
 have r0:=h4 0 _ _ rfl e1
 have hvs:vs = #[vs[0]]:=by
  apply Array.ext
  ·simpa using hs
  ·intro i hi hi2;simp at hi2;subst hi2;rfl
 rw [hvs];generalize vs[0]=v0 at r0;clear e1 hvs;cases r0 with
 | ptr hφ=>
 rename_i b;have ho:=h1 0;have et:aV (av.box 135 [p,.own 1 1] :: .arr 5 1 els::r) 0=some (.box 135 [p,.own 1 1]):=rfl;rw [et] at ho;obtain ⟨b',c,g1,g2,g3,g4,g5,g6⟩:=ho;rw [g1] at hφ;injection hφ with hφ;subst hφ;obtain ⟨c0,c1,rfl⟩:=jB (by simpa using g4);have q1:=g6 1 (.own 1 1) c1 rfl rfl;have ho1:=h1 1;have YS:aV (av.box 135 [p,.own 1 1] :: .arr 5 1 els::r) 1=some (.arr 5 1 els):=rfl;rw [YS] at ho1;rcases ho1 with ⟨_,k⟩ | ⟨g,cur,fz,k1,k2,k3,k4,k5⟩
 ·exact absurd k hne
 ·cases q1 with
  | gL hp=>rw [k1] at hp;cases hp
  | own hp hb0 hcap hlc hlen=>
    rename_i g' len cap c' ty' uz
    have:g'=g:=by rw [k1] at hp;injection hp with hp;exact hp.symm
    subst this;have hl:=hlen els.length (by rw [YS];rfl);subst hl;rw [k3] at hb0;injection hb0 with hb0;injection hb0 with a1 a2 a3;subst a1;subst a2;subst a3;have hlm:(els.map DV.byte).length=els.length:=by simp
    have F:=ko h1 h2;obtain ⟨k51,k52,ZQ⟩:=k5
    have hcells:∀(j:Nat) (y:UInt8),(els.map DV.byte)[j]? = some y→w.cell? ((⟨g',0,none⟩:Addr).add j)=some (.int .u8 y.toNat):=by
     intro j y hy;have hj:j < els.length:=by simpa using (List.getElem?_eq_some_iff.1 hy).1
     have hx:els[j]? = some els[j]:=by simp [hj]
     have hB:=List.all_eq_true.1 hb els[j] (by simp);have hcj:cur[j]? = some cur[j]:=by simp [show j < cur.size by omega]
     have hd:=ZQ j _ 0 els[j] cur[j] hx (by rw [EI hB];rfl) (by simp [hcj]);rw [pO hB] at hd;rw [gW,Am.p8 k3,Nat.zero_add,hcj];have V4:y=els[j].byte:=by simp [hj] at hy;exact hy.symm
     subst V4;generalize cur[j]=cv at hd;cases hd;rfl
    have hw' : ∀(k:Nat),k≠g'→(w.drew.freeze ⟨g',0,none⟩ els.length).heap[k]? = w.heap[k]?:=by
     intro k hk;unfold World.freeze;split
     ·rfl
     ·simp only [Array.getElem?_modify];rw [if_neg (fun e=>hk e.symm)];rfl
    have hwg:∃Qz,(w.drew.freeze ⟨g',0,none⟩ els.length).heap[g']? = some (.cells cur 5 Qz):=by
     have Xb : w.drew.heap[g']? = some (.cells cur 5 fz):=k3;unfold World.freeze;split
     ·exact ⟨_,Xb⟩
     ·simp only [Array.getElem?_modify,Xb];simp
    have hsz:(w.drew.freeze ⟨g',0,none⟩ els.length).heap.size=w.heap.size:=by unfold World.freeze;split<;>simp
    have hos:(w.drew.freeze ⟨g',0,none⟩ els.length).os=w.os∧(w.drew.freeze ⟨g',0,none⟩ els.length).output=w.output:=by unfold World.freeze;split<;>exact ⟨rfl,rfl⟩
    refine (C8 b' g' cap cur.size (els.map DV.byte) c0 w (fun w'=>w'=w.drew.freeze ⟨g',0,none⟩ els.length) fz cur (by simpa using hne) (by rw [hlm];exact hlc) (by rw [hlm];omega) (by rw [hlm];exact g3) k3 rfl (by rw [hlm];omega) hcells (by rw [hlm])).mono ?_
    rintro e w' ⟨rfl,rfl⟩
    obtain ⟨Qz,hwg⟩:=hwg
    obtain ⟨p1,p2,p3⟩:=F.wG (i:=1) (p:=.gone) (κ':=κ) (φ':=φ) (w':=w.drew.freeze ⟨g',0,none⟩ els.length) (by omega) (fun _ h=>h) (fun _ _ _ _ h=>h) (fun _ _ h=>h)
     (fun k _ hk _=>hw' k (fun e=>by subst e;exact hk k2)) (fun _ _=>rfl) (fun _=>rfl)
     (fun k c ty fz hk=>by
       by_cases e:k=g'
       ·subst e;rw [k3] at hk;injection hk with hk;injection hk with a1 a2 a3;subst a1;subst a2;exact ⟨_,_,hwg,rfl⟩
       ·exact ⟨c,fz,by rw [hw' k e];exact hk,rfl⟩) (fun _ n hn=>by simp [av.dB] at hn) (fun k hk=>by rw [hsz];exact h2.lt k hk) (fun _=>trivial) hos
    have JF:bF (aV (av.box 135 [p,.own 1 1] :: .arr 5 1 els::r)) 1 (some .gone)=aV (.box 135 [p,.own 1 1] :: .gone::r):=yR _ _ _ _;simp only [JF] at p1 p2;exact ⟨_,_,_,κ,φ,rfl,⟨rfl,rfl⟩,.d (.str _),p1.objs,p1.bnd,by simp,p3,p2.kp⟩
theorem Gr (p:RV) (r:List av):C Tryz.prog 90 [.ptr 0 0] (.box 135 [p,.d (.aC 0 [] true)]::r)
 (fun v o=>v = .d (.str [])∧o = .box 135 [p,.d (.aC 0 [] true)]::r):=by
 intro κ φ w vs h1 h2 h3 h4;have hs:vs.size=1:=by simpa using h3
 have e1:vs[0]? = some vs[0]:=by simp [show 0 < vs.size by omega]
 have r0:=h4 0 _ _ rfl e1
 have hvs:vs = #[vs[0]]:=by
  apply Array.ext
  ·simpa using hs
  ·intro i hi hi2;simp at hi2;subst hi2;rfl
 rw [hvs];generalize vs[0]=v0 at r0;clear e1 hvs;cases r0 with
 | ptr hφ=>
 rename_i b;have ho:=h1 0;have et:aV (av.box 135 [p,.d (.aC 0 [] true)]::r) 0=some (.box 135 [p,.d (.aC 0 [] true)]):=rfl;rw [et] at ho;obtain ⟨b',c,g1,g2,g3,g4,g5,g6⟩:=ho;rw [g1] at hφ;injection hφ with hφ;subst hφ;obtain ⟨c0,c1,rfl⟩:=jB (by simpa using g4);have q1:=g6 1 (.d (.aC 0 [] true)) c1 rfl rfl;cases q1 with
 | d hr=>
 have hc1:c1 = .slice none 0 0:=by
  cases hr with
  | iU hf=>have:=hf rfl;rw [this.1,this.2 rfl]
  | aC _ _ hf _ _ _ _=>have:=(hf rfl).2;omega
 subst hc1;have F:=ko h1 h2;refine (C9 b' c0 w (fun w'=>w'=w.drew) g3 rfl).mono ?_
 rintro e w' ⟨rfl,rfl⟩
 exact ⟨_,_,_,κ,φ,rfl,⟨rfl,rfl⟩,.d (.str _),h1,⟨h2.lt,h2.gl⟩,by simp,⟨Nat.le_refl _,fun _ hb=>⟨hb,rfl⟩,fun _ _ hb=>⟨hb,rfl⟩,fun _ c _ fz hc=>⟨c,fz,hc,rfl⟩,rfl,rfl⟩,Kp.refl _ _⟩
def oz:RV→Bool
 | .d .aG=>true
 | .ptr 0 0=>true
 | _=>false
def yS:kK:=fun a o=>match a,o with
 | [.ptr 0 0],.box T [x,y]::r=>bif Nat.beq T 135&&oz x then some (.d (.bn []),.box T [.ptr 0 0,y]::r,[]) else none
 | _,_=>none
theorem yT:cK Tryz.prog 144 yS:=by
 intro a o r o' c hg _;unfold yS at hg;split at hg
 ·rename_i T x y rr;cases hb:(Nat.beq T 135&&oz x) with
  | false=>rw [hb] at hg;simp at hg
  | true=>
    rw [hb] at hg;simp only [cond_true,Option.some.injEq,Prod.mk.injEq] at hg;obtain ⟨rfl,rfl,rfl⟩:=hg;simp only [Bool.and_eq_true] at hb
    have:=cB hb.1;subst this
    refine Gq x y rr ?_
    have:=hb.2
    unfold oz at this;split at this
    ·exact .inl rfl
    ·exact .inr rfl
    ·cases this
 ·cases hg
def Gs:kK:=fun a o=>match a,o with
 | [.ptr 0 0],.box T [p,.own 1 1] :: .arr E 1 els::r=>bif Nat.beq T 135&&Nat.beq E 5 then some (.d (.str (els.map DV.byte)),.box T [p,.own 1 1] :: .gone::r,[els.all EY,!els.isEmpty,decide (els.length≤1099511627776)]) else none
 | [.ptr 0 0],.box T [p,.d (.aC 0 [] true)]::r=>bif Nat.beq T 135 then some (.d (.str []),.box T [p,.d (.aC 0 [] true)]::r,[]) else none
 | _,_=>none
theorem Db:cK Tryz.prog 90 Gs:=by
 intro a o r o' c hg hc;unfold Gs at hg;split at hg
 ·rename_i T p E els rr;cases hb:(Nat.beq T 135&&Nat.beq E 5) with
  | false=>rw [hb] at hg;simp at hg
  | true=>
    rw [hb] at hg;simp only [cond_true,Option.some.injEq,Prod.mk.injEq] at hg;obtain ⟨rfl,rfl,rfl⟩:=hg;simp only [Bool.and_eq_true] at hb
    have:=cB hb.1;subst this
    have:=cB hb.2;subst this
    have h0:=hc _ (by simp:els.all EY∈[els.all EY,!els.isEmpty,decide (els.length≤1099511627776)]);have h1:=hc _ (by simp:(!els.isEmpty)∈[els.all EY,!els.isEmpty,decide (els.length≤1099511627776)]);have h2:=hc _ (by simp:decide (els.length≤1099511627776)∈[els.all EY,!els.isEmpty,decide (els.length≤1099511627776)]);exact MJ p els rr h0 (by rintro rfl;simp at h1) (by simpa using h2)
 ·rename_i T p rr;cases hb:Nat.beq T 135 with
  | false=>rw [hb] at hg;simp at hg
  | true=>
    rw [hb] at hg;simp only [cond_true,Option.some.injEq,Prod.mk.injEq] at hg;obtain ⟨rfl,rfl,rfl⟩:=hg
    have:=cB hb;subst this
    exact Gr p rr
 ·cases hg
end Go.Proofs.YtjoefbioobdinaaGreatDoor.Bd
namespace Go.Proofs.YtjoefbioobdinaaGreatDoor
open Go.RowKit Am
open Go.ay hiding cut intOf take split
set_option maxRecDepth 100000
set_option linter.unusedVariables false
set_option linter.unusedSimpArgs false
noncomputable abbrev QU:Code:=dY Tryz.f26
noncomputable abbrev IB:Code:=dY Tryz.f49
noncomputable abbrev poC:Code:=dY Tryz.f91
noncomputable abbrev diC:Code:=dY Tryz.f50
noncomputable abbrev drC:Code:=dY Tryz.f29
noncomputable abbrev dcC:Code:=dY Tryz.f48
noncomputable def PO:List (Nat×kK):=[(144,Bd.yS),(90,Bd.Gs)]
abbrev BT:Nat:=135
def MK (ks:DV) (o:W) (i:Int):jN:={ n:=20,m:=0,regs:=T.mk [(0,.d ks),(3,.d (.str o)),(4,.d (.int .i64 i))],objs:=T.mk [] }
def EJ (ks:DV) (n i:Int) (x:RV):jN:={ n:=17,m:=0,regs:=T.mk [(3,.ptr 200 0),(6,.d ks),(7,.d (.int .i64 n)),(8,.d (.int .i64 i))],objs:=T.mk [(200,.box BT [x,.d (.aC 0 [] true)])] }
def EZ (ks:DV) (o:List DV) (n i:Int) (x:RV):jN:={ n:=17,m:=0,regs:=T.mk [(3,.ptr 200 0),(6,.d ks),(7,.d (.int .i64 n)),(8,.d (.int .i64 i))],objs:=T.mk [(200,.box BT [x,.own 201 1]),(201,.arr bT 1 o)] }
def ML (n:Nat):DV→DV→Option (DV×List Bool)
 | .int .i64 t,.int .i64 o=>some (.str (Lib.decDigits (10*t.toNat+o.toNat)),[decide (0≤t∧t < (n:Int)),decide (0≤o∧o≤9)])
 | _,_=>none
noncomputable def VQ (n:Nat):List (Nat×kK):=[(91,e2 (ML n))]
def Xc:DV→Option (DV×List Bool)
 | .int .i64 n=>some (.str (Lib.itoa n),[decide (-9223372036854775808≤n),decide (n≤9223372036854775807)])
 | _=>none
noncomputable def ZR:List (Nat×kK):=[(50,e1 Xc),(88,e1 Zm)]
theorem yU:eD Tryz.prog PO:=.cons Bd.yT (.cons Bd.Db .nil)
def jf (l:List Bool):W:=l.map fun b=>if b then 43 else 45
abbrev MN (l:List Bool):cu→Prop:=yG (Tryz.f26.results.toList) 0 (fun r o=>r = .d (.str (jf l))∧o=[])
theorem MO {ks:List DV} {i:Nat} {b:Bool} (h:ks[i]? = some (.bool b)):jF (.bB (ks.getD (Nat.cast (R:=Int) i).toNat DV.aG) 0) (.bB (.bool b) 0):=.of_eq (by rw [Int.toNat_natCast,List.getD,h];rfl)
set_option maxHeartbeats 400000 in
theorem PS (l:List Bool) (fl:Bool) (hl:l.length≤1000000):WK Tryz.prog 0 (aF QU 0) (MK (.aC 1 (l.map DV.bool) fl) [] (0:Nat)).den (MN l):=by
 have ok:=aJ (l:=[]) .nil;refine WK.rec' (fun i:Nat=>MK (.aC 1 (l.map DV.bool) fl) (jf (l.take i)) (i:Int)) (fun i=>i≤l.length) (fun i=>l.length-i) ?_ 0 (by omega);intro i hi ih;have hkl:(l.map DV.bool).length=l.length:=List.length_map ..;have hol:(jf (l.take i)).length≤1000000:=by unfold jf;rw [List.length_map,List.length_take];omega
 by_cases he:i < l.length
 ·obtain ⟨b,hb⟩:∃b,l[i]? = some b:=⟨_,List.getElem?_eq_getElem he⟩;have hn:=ih (i+1) (by omega) (by omega);have vs:=dn (i:=i) (by omega);have vb:jF (.bB ((l.map DV.bool).getD (Nat.cast (R:=Int) i).toNat DV.aG) 0) (.bB (.bool b) 0):=MO (by rw [List.getElem?_map,hb];rfl);have et:jf (l.take (i+1))=jf (l.take i)++[if b then 43 else 45]:=by unfold jf;rw [List.take_add_one,hb,List.map_append];rfl
  rw [et] at hn;generalize l.map DV.bool=ks at *;generalize jf (l.take i)=o at *;have c1:decide ((0:Int)≤(Nat.cast (R:=Int) i)∧(Nat.cast (R:=Int) i) < (Nat.cast (R:=Int) ks.length))=true:=decide_eq_true (by omega);have c2:∀x:UInt8,decide (o.length+[x].length≤2 ^ 62)=true:=fun x=>decide_eq_true (by simp only [List.length_cons,List.length_nil];omega);cases b with
  | true=>
    refine WK.eF ok 1000 0 [(8,aj true),(13,RV.bB (aB true) 0),(10,aK ((i+1:Nat):Int))] [] [0,3,4] [decide (0≤(i:Int)∧(i:Int) < (ks.length:Int)),decide (List.length o+([43]:List UInt8).length≤2 ^ 62)] [(aj (decide ((i:Int) < (ks.length:Int))),aj true),(RV.bB (ks.getD (i:Int).toNat DV.aG) 0,RV.bB (aB true) 0),(aK (IntKind.i64.wrap ((i:Int)+1)),aK ((i+1:Nat):Int))] rfl (by kernel_rfl:bq (bG []) 1000 0 _ _ _ _ (MK (.aC 1 ks fl) o (i:Int))=some (aF QU 0,MK (.aC 1 ks fl) (o++[43]) ((i+1:Nat):Int),_,_)) (by refine ⟨?_,?_,trivial⟩<;>(first | rfl | exact c1 | exact c2 _)) (by refine ⟨?_,?_,?_,trivial⟩<;>(first | exact ah rfl | exact vb | exact vs | exact ah (decide_eq_true (by omega)))) ?_
    exact hn
  | false=>
    refine WK.eF ok 1000 0 [(8,aj true),(13,RV.bB (aB false) 0),(10,aK ((i+1:Nat):Int))] [] [0,3,4] [decide (0≤(i:Int)∧(i:Int) < (ks.length:Int)),decide (List.length o+([45]:List UInt8).length≤2 ^ 62)] [(aj (decide ((i:Int) < (ks.length:Int))),aj true),(RV.bB (ks.getD (i:Int).toNat DV.aG) 0,RV.bB (aB false) 0),(aK (IntKind.i64.wrap ((i:Int)+1)),aK ((i+1:Nat):Int))] rfl (by kernel_rfl:bq (bG []) 1000 0 _ _ _ _ (MK (.aC 1 ks fl) o (i:Int))=some (aF QU 0,MK (.aC 1 ks fl) (o++[45]) ((i+1:Nat):Int),_,_)) (by refine ⟨?_,?_,trivial⟩<;>(first | rfl | exact c1 | exact c2 _)) (by refine ⟨?_,?_,?_,trivial⟩<;>(first | exact ah rfl | exact vb | exact vs | exact ah (decide_eq_true (by omega)))) ?_
    exact hn
 ·have et:l.take i=l:=List.take_of_length_le (by omega);rw [et];obtain ⟨o,ho⟩:∃o,jf l=o:=⟨_,rfl⟩;rw [ho];generalize l.map DV.bool=ks at *;exact WK.fin ok 1000 0 [(8,aj false)] [] [(aj (decide ((i:Int) < (ks.length:Int))),aj false)] rfl (by kernel_rfl:au (bG []) true _ 1000 0 _ _ (MK (.aC 1 ks fl) o (i:Int))=some (aR o,[],_,_)) trivial ⟨(by first | exact ah rfl | exact ah (decide_eq_false (by omega))),trivial⟩ ⟨by rw [ho],rfl⟩
set_option maxHeartbeats 400000 in
theorem Xd (l:List Bool) (fl:Bool) (hl:l.length≤1000000):Go.Am.C Tryz.prog 26 [.d (.aC 1 (l.map DV.bool) fl)] [] (fun r o=>r = .d (.str (jf l))∧o=[]):=by
 have ok:=aJ (l:=[]) .nil;refine aH (fn:=Tryz.f26) (body:=QU) true (by kernel_rfl) (by kernel_rfl) (by kernel_rfl) ?_;have hk:=PS l fl hl;generalize (.aC 1 (l.map DV.bool) fl:DV)=kd at *;refine WK.eF ok 1000 0 [] [] [0,3,4] [] [] rfl (by kernel_rfl:bq (bG []) 1000 0 _ _ _ _ (bV 20 [.d kd] [])=some (aF QU 0,MK kd [] (0:Nat),_,_)) trivial trivial ?_;exact hk
theorem PU (o:W) (i:Nat) (hq:jf []=o):WK Tryz.prog 0 (aF QU 0) (MK (.aC 0 [] true) o (i:Int)).den (MN []):=by
 have ok:=aJ (l:=[]) .nil;exact WK.fin ok 1000 0 [(8,aj false)] [] [(aj false,aj false)] rfl (by kernel_rfl:au (bG []) true _ 1000 0 _ _ (MK (.aC 0 [] true) o (i:Int))=some (aR o,[],_,_)) trivial ⟨(by first | exact ah rfl | exact ah (decide_eq_false (by omega))),trivial⟩ ⟨by rw [hq],rfl⟩
set_option maxHeartbeats 400000 in
theorem QV:Go.Am.C Tryz.prog 26 [.d (.aC 0 [] true)] [] (fun r o=>r = .d (.str (jf []))∧o=[]):=by
 have ok:=aJ (l:=[]) .nil;refine aH (fn:=Tryz.f26) (body:=QU) true (by kernel_rfl) (by kernel_rfl) (by kernel_rfl) ?_;have hk:=PU [] 0 rfl;obtain ⟨kd,hkd⟩:∃kd:DV,.aC 0 [] true=kd:=⟨_,rfl⟩;rw [hkd] at hk ⊢;refine WK.eF ok 1000 0 [] [] [0,3,4] [] [] rfl (by kernel_rfl:bq (bG []) 1000 0 _ _ _ _ (bV 20 [.d kd] [])=some (aF QU 0,MK kd [] (0:Nat),_,_)) trivial trivial ?_;exact hk
def IC:DV→Bool
 | .bool b=>b
 | _=>false
def jI:DV→Bool
 | .bool _=>true
 | _=>false
theorem MP:∀{ks:List DV},ks.all jI=true→(ks.map IC).map DV.bool=ks
 | [],_=>rfl
 | x::r,h=>by
   rw [List.all_cons,Bool.and_eq_true] at h
   have e:DV.bool (IC x)=x:=by
    cases x<;>first | rfl | (exact absurd h.1 (by simp [jI]))
   rw [List.map_cons,List.map_cons,MP h.2,e]
abbrev vB (l:List Bool):cu→Prop:=yG (Tryz.f49.results.toList) 0 (fun r o=>r = .d (.str (jf l))∧o=[])
theorem SI (a:W):(jq a).all Bd.EY=true:=by
 rw [List.all_eq_true];intro x hx;obtain ⟨b,_,rfl⟩:=List.mem_map.1 hx
 have:=UInt8.toNat_lt b
 show decide ((0:Int)≤(b.toNat:Int)∧(b.toNat:Int) < 256)=true
 exact decide_eq_true (by omega)
set_option maxHeartbeats 400000 in
theorem PV (l:List Bool) (fl:Bool) (hl:l.length≤1000000) (i:Nat) (hi:1≤i) (hil:i≤l.length):WK Tryz.prog 0 (aF IB 0) (EZ (.aC 1 (l.map DV.bool) fl) (jq (jf (l.take i))) (l.length:Int) (i:Int) (.ptr 200 0)).den (vB l):=by
 have ok:=pJ yU 3;refine WK.rec' (fun i:Nat=>EZ (.aC 1 (l.map DV.bool) fl) (jq (jf (l.take i))) (l.length:Int) (i:Int) (.ptr 200 0)) (fun i=>1≤i∧i≤l.length) (fun i=>l.length-i) ?_ i ⟨hi,hil⟩;intro i ⟨hi1,hi⟩ ih;have hkl:(l.map DV.bool).length=l.length:=List.length_map ..;have hol:(jq (jf (l.take i))).length=i:=by unfold jq jf;rw [List.length_map,List.length_map,List.length_take];omega
 by_cases he:i < l.length
 ·obtain ⟨b,hb⟩:∃b,l[i]? = some b:=⟨_,List.getElem?_eq_getElem he⟩;have hn:=ih (i+1) ⟨by omega,by omega⟩ (by omega);have vs:=dn (i:=i) (by omega);have vb:jF (.bB ((l.map DV.bool).getD (Nat.cast (R:=Int) i).toNat DV.aG) 0) (.bB (.bool b) 0):=MO (by rw [List.getElem?_map,hb];rfl)
  have et:jq (jf (l.take (i+1)))=jq (jf (l.take i))++[.int .u8 (Nat.cast (R:=Int) (if b=true then 43 else 45:UInt8).toNat)]:=by
   have:jf (l.take (i+1))=jf (l.take i)++[if b then 43 else 45]:=by unfold jf;rw [List.take_add_one,hb,List.map_append];rfl
   rw [this,uh]
  rw [et] at hn;generalize l.map DV.bool=ks at *;generalize jq (jf (l.take i))=out at *;obtain ⟨n,hnn⟩:∃n:Int,(l.length:Int)=n:=⟨_,rfl⟩;rw [hnn] at hn ⊢;have c1:decide ((0:Int)≤(Nat.cast (R:=Int) i)∧(Nat.cast (R:=Int) i) < (Nat.cast (R:=Int) ks.length))=true:=decide_eq_true (by omega);have c2:∀x:DV,decide ((out.length+[x].length)*1≤2 ^ 38)=true:=fun x=>decide_eq_true (by simp only [List.length_cons,List.length_nil];omega);cases b with
  | true=>
    have e43:(Nat.cast (R:=Int) (if true=true then 43 else 45:UInt8).toNat)=43:=rfl;rw [e43] at hn;refine WK.eF ok 1000 0 [(9,aj true),(10,RV.bB (aB true) 0),(15,aK ((i+1:Nat):Int))] [] [3,6,7,8] [decide (0≤(i:Int)∧(i:Int) < (ks.length:Int)),decide ((out.length+[aU (43)].length)*Go.Proofs.Tryz.prog.types[5].bytes≤2 ^ 38)] [(aj (decide ((i:Int) < n)),aj true),(RV.bB (ks.getD (i:Int).toNat DV.aG) 0,RV.bB (aB true) 0),(aK (IntKind.i64.wrap ((i:Int)+1)),aK ((i+1:Nat):Int))] rfl (by kernel_rfl:bq (Ii PO 3) 1000 0 _ _ _ _ (EZ (.aC 1 ks fl) out n (i:Int) (.ptr 200 0))=some (aF IB 0,EZ (.aC 1 ks fl) (out++[.int .u8 43]) n ((i+1:Nat):Int) (.ptr 200 0),_,_)) (by refine ⟨?_,?_,trivial⟩<;>(first | rfl | exact c1 | exact c2 _)) (by refine ⟨?_,?_,?_,trivial⟩<;>(first | exact ah rfl | exact vb | exact vs | exact ah (decide_eq_true (by omega)))) ?_
    exact hn
  | false=>
    have e45:(Nat.cast (R:=Int) (if false=true then 43 else 45:UInt8).toNat)=45:=rfl;rw [e45] at hn;refine WK.eF ok 1000 0 [(9,aj true),(10,RV.bB (aB false) 0),(15,aK ((i+1:Nat):Int))] [] [3,6,7,8] [decide (0≤(i:Int)∧(i:Int) < (ks.length:Int)),decide ((out.length+[aU (45)].length)*Go.Proofs.Tryz.prog.types[5].bytes≤2 ^ 38)] [(aj (decide ((i:Int) < n)),aj true),(RV.bB (ks.getD (i:Int).toNat DV.aG) 0,RV.bB (aB false) 0),(aK (IntKind.i64.wrap ((i:Int)+1)),aK ((i+1:Nat):Int))] rfl (by kernel_rfl:bq (Ii PO 3) 1000 0 _ _ _ _ (EZ (.aC 1 ks fl) out n (i:Int) (.ptr 200 0))=some (aF IB 0,EZ (.aC 1 ks fl) (out++[.int .u8 45]) n ((i+1:Nat):Int) (.ptr 200 0),_,_)) (by refine ⟨?_,?_,trivial⟩<;>(first | rfl | exact c1 | exact c2 _)) (by refine ⟨?_,?_,?_,trivial⟩<;>(first | exact ah rfl | exact vb | exact vs | exact ah (decide_eq_true (by omega)))) ?_
    exact hn
 ·have et:l.take i=l:=List.take_of_length_le (by omega);rw [et] at hol ⊢;have hq:=ug (jf l);have c4:=SI (jf l);generalize l.map DV.bool=ks at *;generalize jq (jf l)=out at *;obtain ⟨n,hnn⟩:∃n:Int,(l.length:Int)=n:=⟨_,rfl⟩;rw [hnn]
  have c5:(!out.isEmpty)=true:=by
   cases out with
   | nil=>simp only [List.length_nil] at hol;omega
   | cons a b=>rfl
  have c6:decide (out.length≤1099511627776)=true:=decide_eq_true (by omega);exact WK.fin ok 1000 0 [(9,aj false)] [out.all Go.Proofs.YtjoefbioobdinaaGreatDoor.Bd.EY,!out.isEmpty,decide (out.length≤1099511627776)] [(aj (decide ((i:Int) < n)),aj false)] rfl (by kernel_rfl:au (Ii PO 3) true _ 1000 0 _ _ (EZ (.aC 1 ks fl) out n (i:Int) (.ptr 200 0))=some (aR (List.map DV.byte out),[],_,_)) (by refine ⟨?_,?_,?_,trivial⟩<;>(first | rfl | exact c4 | exact c5 | exact c6)) ⟨(by first | exact ah rfl | exact ah (decide_eq_false (by omega))),trivial⟩ ⟨by rw [hq],rfl⟩
theorem SK (ks:DV) (n i:Int) (x:RV):(EZ ks [] n i x).den = { (EJ ks n i x).den with O:=bF (bF (EJ ks n i x).den.O 201 (some (.arr bT 1 []))) 200 (some (.box BT ([x,.d (.aC 0 [] true)].set 1 (.own 201 1)))) }:=by
 simp only [jN.den,EZ,EJ];congr 1;funext q;by_cases h3:q=200
 ·subst h3;rfl
 by_cases h8:q=201
 ·subst h8;rfl
 rw [dP _ _ h3,dP _ _ h8];simp only [T.mk];simp only [T.dA _ h3,T.dA _ h8]
theorem IE (ks:DV) (n:Int) (i:Nat) (h:¬(i:Int) < n):WK Tryz.prog 0 (aF IB 0) (EJ ks n (i:Int) (.d .aG)).den (vB []):=by
 have ok:=pJ yU 3;obtain ⟨kd,hk⟩:∃kd,ks=kd:=⟨_,rfl⟩;rw [hk];exact WK.fin ok 1000 0 [(9,aj false)] [] [(aj (decide ((i:Int) < n)),aj false)] rfl (by kernel_rfl:au (Ii PO 3) true _ 1000 0 _ _ (EJ kd n (i:Int) (.d .aG))=some (aR [],[],_,_)) trivial ⟨(by first | exact ah rfl | exact ah (decide_eq_false h)),trivial⟩ ⟨rfl,rfl⟩
set_option maxHeartbeats 400000 in
theorem MQ (l:List Bool) (fl:Bool) (hl:l.length≤1000000) (b:Bool) (hb:l[0]? = some b) (i:Nat) (hi:i=0):WK Tryz.prog 0 (aF IB 0) (EZ (.aC 1 (l.map DV.bool) fl) [] (l.length:Int) (i:Int) (.d .aG)).den (vB l):=by
 have ok:=pJ yU 3;have hlen:0 < l.length:=(List.getElem?_eq_some_iff.1 hb).1;have hn:=PV l fl hl (i+1) (by omega) (by omega);have hkl:(l.map DV.bool).length=l.length:=List.length_map ..;have vs:=dn (i:=i) (by omega);have vb:jF (.bB ((l.map DV.bool).getD (Nat.cast (R:=Int) i).toNat DV.aG) 0) (.bB (.bool b) 0):=MO (by rw [List.getElem?_map,hi,hb];rfl)
 have et:jq (jf (l.take (i+1)))=([]:List DV)++[.int .u8 (Nat.cast (R:=Int) (if b=true then 43 else 45:UInt8).toNat)]:=by
  have:jf (l.take (i+1))=[]++[if b then 43 else 45]:=by unfold jf;rw [hi,List.take_add_one,hb];rfl
  rw [this,uh];rfl
 rw [et] at hn;generalize l.map DV.bool=ks at *;obtain ⟨out,ho⟩:∃out:List DV,[]=out:=⟨_,rfl⟩;have hol:out.length=0:=by rw [←ho];rfl
 obtain ⟨n,hnn⟩:∃n:Int,(l.length:Int)=n:=⟨_,rfl⟩;have hn2:WK Tryz.prog 0 (aF IB 0) (EZ (.aC 1 ks fl) (out++[.int .u8 (Nat.cast (R:=Int) (if b=true then 43 else 45:UInt8).toNat)]) n ((i+1:Nat):Int) (.ptr 200 0)).den (vB l):=by rw [←ho,←hnn];exact hn
 have hg:WK Tryz.prog 0 (aF IB 0) (EZ (.aC 1 ks fl) out n (i:Int) (.d .aG)).den (vB l):=by
  clear hn;have c1:decide ((0:Int)≤(Nat.cast (R:=Int) i)∧(Nat.cast (R:=Int) i) < (Nat.cast (R:=Int) ks.length))=true:=decide_eq_true (by omega);have c2:∀x:DV,decide ((out.length+[x].length)*1≤2 ^ 38)=true:=fun x=>decide_eq_true (by simp only [List.length_cons,List.length_nil];omega);cases b with
  | true=>
    have e43:(Nat.cast (R:=Int) (if true=true then 43 else 45:UInt8).toNat)=43:=rfl;rw [e43] at hn2;refine WK.eF ok 1000 0 [(9,aj true),(10,RV.bB (aB true) 0),(15,aK ((i+1:Nat):Int))] [] [3,6,7,8] [decide (0≤(i:Int)∧(i:Int) < (ks.length:Int)),decide ((out.length+[aU (43)].length)*Go.Proofs.Tryz.prog.types[5].bytes≤2 ^ 38)] [(aj (decide ((i:Int) < n)),aj true),(RV.bB (ks.getD (i:Int).toNat DV.aG) 0,RV.bB (aB true) 0),(aK (IntKind.i64.wrap ((i:Int)+1)),aK ((i+1:Nat):Int))] rfl (by kernel_rfl:bq (Ii PO 3) 1000 0 _ _ _ _ (EZ (.aC 1 ks fl) out n (i:Int) (.d .aG))=some (aF IB 0,EZ (.aC 1 ks fl) (out++[.int .u8 43]) n ((i+1:Nat):Int) (.ptr 200 0),_,_)) (by refine ⟨?_,?_,trivial⟩<;>(first | rfl | exact c1 | exact c2 _)) (by refine ⟨?_,?_,?_,trivial⟩<;>(first | exact ah rfl | exact vb | exact vs | exact ah (decide_eq_true (by omega)))) ?_
    exact hn2
  | false=>
    have e45:(Nat.cast (R:=Int) (if false=true then 43 else 45:UInt8).toNat)=45:=rfl;rw [e45] at hn2;refine WK.eF ok 1000 0 [(9,aj true),(10,RV.bB (aB false) 0),(15,aK ((i+1:Nat):Int))] [] [3,6,7,8] [decide (0≤(i:Int)∧(i:Int) < (ks.length:Int)),decide ((out.length+[aU (45)].length)*Go.Proofs.Tryz.prog.types[5].bytes≤2 ^ 38)] [(aj (decide ((i:Int) < n)),aj true),(RV.bB (ks.getD (i:Int).toNat DV.aG) 0,RV.bB (aB false) 0),(aK (IntKind.i64.wrap ((i:Int)+1)),aK ((i+1:Nat):Int))] rfl (by kernel_rfl:bq (Ii PO 3) 1000 0 _ _ _ _ (EZ (.aC 1 ks fl) out n (i:Int) (.d .aG))=some (aF IB 0,EZ (.aC 1 ks fl) (out++[.int .u8 45]) n ((i+1:Nat):Int) (.ptr 200 0),_,_)) (by refine ⟨?_,?_,trivial⟩<;>(first | rfl | exact c1 | exact c2 _)) (by refine ⟨?_,?_,?_,trivial⟩<;>(first | exact ah rfl | exact vb | exact vs | exact ah (decide_eq_true (by omega)))) ?_
    exact hn2
 rw [←ho,←hnn] at hg;exact hg
theorem PW (l:List Bool) (fl:Bool) (hl:l.length≤1000000):WK Tryz.prog 0 (aF IB 0) (EJ (.aC 1 (l.map DV.bool) fl) (l.length:Int) (0:Nat) (.d .aG)).den (vB l):=by
 cases hl0:l with
 | nil=>exact IE _ _ 0 (by simp)
 | cons b r=>
   rw [←hl0];refine WK.CV (i:=200) (j:=1) (sl:=201) (T:=BT) (ty:=bT) (sz:=1) (sz':=0) (cs:=[.d .aG,.d (.aC 0 [] true)]) rfl rfl rfl (SK _ _ _ _) ?_;exact MQ l fl hl b (by rw [hl0];rfl) 0 rfl
set_option maxHeartbeats 400000 in
theorem Xe (l:List Bool) (fl:Bool) (hl:l.length≤1000000):Go.Am.C Tryz.prog 49 [.d (.aC 1 (l.map DV.bool) fl)] [] (fun r o=>r = .d (.str (jf l))∧o=[]):=by
 have ok:=pJ yU 3;refine aH (fn:=Tryz.f49) (body:=IB) true (by kernel_rfl) (by kernel_rfl) (by kernel_rfl) ?_;have hk:=PW l fl hl;have hkl:(l.length:Int)=((l.map DV.bool).length:Int):=by rw [List.length_map]
 rw [hkl] at hk;generalize l.map DV.bool=ks at *;refine WK.eF ok 1000 0 [] [] [3,6,7,8] [] [] rfl (by kernel_rfl:bq (Ii PO 3) 1000 0 _ _ _ _ (bV 17 [.d (.aC 1 ks fl)] [])=some (aF IB 0,EJ (.aC 1 ks fl) (ks.length:Int) (0:Nat) (.d .aG),_,_)) trivial trivial ?_;exact hk
theorem QW:Go.Am.C Tryz.prog 49 [.d (.aC 0 [] true)] [] (fun r o=>r = .d (.str (jf []))∧o=[]):=by
 have ok:=pJ yU 3;refine aH (fn:=Tryz.f49) (body:=IB) true (by kernel_rfl) (by kernel_rfl) (by kernel_rfl) ?_;have hk:=IE (.aC 0 [] true) 0 0 (by simp);refine WK.eF ok 1000 0 [] [] [3,6,7,8] [] [] rfl (by kernel_rfl:bq (Ii PO 3) 1000 0 _ _ _ _ (bV 17 [.d (.aC 0 [] true)] [])=some (aF IB 0,EJ (.aC 0 [] true) 0 (0:Nat) (.d .aG),_,_)) trivial trivial ?_;exact hk
theorem Dc {u:Nat} (h:u < 10000000000000000000):(Lib.decDigits u).length≤20:=by
 obtain ⟨h1,h2,h3,h4,h5⟩:=Ij u;by_cases h0:u=0
 ·rw [h5 h0];omega
 ·have g:=LU h1 h2 (h4 h0);rw [h3] at g;rcases Nat.lt_or_ge 20 (Lib.decDigits u).length with q | q
  ·have g3:10 ^ 20≤10 ^ ((Lib.decDigits u).length-1):=Nat.pow_le_pow_right (by decide) (by omega);have g4:(10:Nat) ^ 20=100000000000000000000:=by decide
   omega
  ·exact q
set_option maxHeartbeats 400000 in
theorem Xf:∀(t:Nat),t≤922337203685477580→∀o:Nat,o≤9→Go.Am.C Tryz.prog 91 [.d (.int .i64 (t:Int)),.d (.int .i64 (o:Int))] [] (fun r ob=>r = .d (.str (Lib.decDigits (10*t+o)))∧ob=[]):=by
 intro t;induction t using Nat.strongRecOn with
 | ind i ih=>
 intro ht o ho
 have hp:cK Tryz.prog 91 (e2 (ML i)):=by
  refine nK fun x x2 y c hg hc=>?_;unfold ML at hg;split at hg
  ·rename_i a b;simp only [Option.some.injEq,Prod.mk.injEq] at hg;obtain ⟨rfl,rfl⟩:=hg;have h1:=of_decide_eq_true (hc (decide (0≤a∧a < (i:Int))) (by simp));have h2:=of_decide_eq_true (hc (decide (0≤b∧b≤9)) (by simp));obtain ⟨a,rfl⟩:=Int.eq_ofNat_of_zero_le h1.1;obtain ⟨b,rfl⟩:=Int.eq_ofNat_of_zero_le h2.1;exact ih a (by omega) (by omega) b (by omega)
  ·cases hg
 have ok:=aJ (l:=VQ i) (.cons hp .nil);refine aH (fn:=Tryz.f91) (body:=poC) true (by kernel_rfl) (by kernel_rfl) (by kernel_rfl) ?_;rw [zC i o (by omega)];obtain ⟨c,hc⟩:∃c:UInt8,UInt8.ofNat (48+o)=c:=⟨_,rfl⟩;have hcn:c.toNat=48+o:=by rw [←hc];exact ay.lM (by omega)
 rw [hc];obtain ⟨y,hy⟩:∃y:Int,(o:Int)=y:=⟨_,rfl⟩;obtain ⟨x,hx⟩:∃x:Int,(i:Int)=x:=⟨_,rfl⟩;have e1:IntKind.u8.wrap (IntKind.i64.wrap (48+y))=(Nat.cast (R:=Int) c.toNat):=by rw [fM _ (by omega),IntKind.wrap_u8];omega
 have e2:[DV.int .u8 (Nat.cast (R:=Int) c.toNat)].map DV.byte=[c]:=ug [c];rw [hx,hy];by_cases h0:i=0
 ·have ex:(x==0)=true:=by rw [←hx,h0];rfl
  rw [if_pos h0];exact WK.fin ok 1000 0 [(8,gB (c.toNat:Int)),(12,aj true)] [true] [(gB (IntKind.u8.wrap (IntKind.i64.wrap (48+y))),gB (c.toNat:Int)),(aj (x==0),aj true)] rfl (by kernel_rfl:au (bG (VQ i)) true _ 1000 0 _ _ (bV 21 [.d (.int .i64 x),.d (.int .i64 y)] [])=some (aR (List.map DV.byte [aU (c.toNat:Int)]),[],_,_)) ⟨(by rfl),trivial⟩ (by refine ⟨?_,?_,trivial⟩<;>(first | exact ah rfl | exact ah ex | exact .of_eq (by rw [e1]))) ⟨by rw [e2];rfl,rfl⟩
 ·have ex:(x==0)=false:=beq_false_of_ne (by omega);rw [if_neg h0];obtain ⟨k,hk⟩:∃k:Int,((i / 10:Nat):Int)=k:=⟨_,rfl⟩;obtain ⟨n,hn⟩:∃n:Int,((i % 10:Nat):Int)=n:=⟨_,rfl⟩;obtain ⟨w,hw⟩:∃w,Lib.decDigits i=w:=⟨_,rfl⟩
  have e3:IntKind.i64.wrap (x.tdiv 10)=k:=by
   have:x.tdiv 10=k:=by rw [←hx,←hk];rfl
   rw [this,fM _ (by omega)]
  have e4:x.tmod 10=n:=by rw [←hx,←hn];rfl
  have e5:Lib.decDigits (10*k.toNat+n.toNat)=w:=by rw [←hw];congr 1;omega
  have hwl:w.length≤20:=by rw [←hw];exact Dc (by omega)
  have c1:decide ((0:Int)≤k∧k < (Nat.cast (R:=Int) i))=true:=decide_eq_true (by omega);have c2:decide ((0:Int)≤n∧n≤9)=true:=decide_eq_true (by omega);have c3:decide (w.length+([DV.int .u8 (Nat.cast (R:=Int) c.toNat)].map DV.byte).length≤2 ^ 62)=true:=decide_eq_true (by rw [e2];simp only [List.length_cons,List.length_nil];omega);rw [hw];exact WK.fin ok 1000 0 [(8,gB (c.toNat:Int)),(12,aj false),(15,aK k),(17,aK n),(18,aR w)] [true,true,true,decide (0≤k∧k < (i:Int)),decide (0≤n∧n≤9),decide (List.length w+(List.map DV.byte [aU (c.toNat:Int)]).length≤2 ^ 62)] [(gB (IntKind.u8.wrap (IntKind.i64.wrap (48+y))),gB (c.toNat:Int)),(aj (x==0),aj false),(aK (IntKind.i64.wrap (x.tdiv (10))),aK k),(aK (x.tmod (10)),aK n),(aR (Go.Lib.decDigits (10*k.toNat+n.toNat)),aR w)] rfl (by kernel_rfl:au (bG (VQ i)) true _ 1000 0 _ _ (bV 21 [.d (.int .i64 x),.d (.int .i64 y)] [])=some (aR (w++List.map DV.byte [aU (c.toNat:Int)]),[],_,_)) (by refine ⟨?_,?_,?_,?_,?_,?_,trivial⟩<;>(first | rfl | exact c1 | exact c2 | exact c3)) (by refine ⟨?_,?_,?_,?_,?_,trivial⟩<;>(first | exact ah rfl | exact ah ex | exact .of_eq (by rw [e1]) | exact .of_eq (by rw [e3]) | exact .of_eq (by rw [e4]) | exact .of_eq (by rw [e5]))) ⟨by rw [e2],rfl⟩
theorem SL (i:Nat) (hi:i≤922337203685477581):cK Tryz.prog 91 (e2 (ML i)):=by
 refine nK fun x x2 y c hg hc=>?_;unfold ML at hg;split at hg
 ·rename_i a b;simp only [Option.some.injEq,Prod.mk.injEq] at hg;obtain ⟨rfl,rfl⟩:=hg;have h1:=of_decide_eq_true (hc (decide (0≤a∧a < (i:Int))) (by simp));have h2:=of_decide_eq_true (hc (decide (0≤b∧b≤9)) (by simp));obtain ⟨a,rfl⟩:=Int.eq_ofNat_of_zero_le h1.1;obtain ⟨b,rfl⟩:=Int.eq_ofNat_of_zero_le h2.1;exact Xf a (by omega) b (by omega)
 ·cases hg
set_option maxHeartbeats 400000 in
theorem ZT (x:Int) (h1:-9223372036854775808≤x) (h2:x≤9223372036854775807):Go.Am.C Tryz.prog 50 [.d (.int .i64 x)] [] (fun r ob=>r = .d (.str (Lib.itoa x))∧ob=[]):=by
 obtain ⟨i,hi⟩:∃i:Nat,i=922337203685477581:=⟨_,rfl⟩;have ok:=aJ (l:=VQ i) (.cons (SL i (by omega)) .nil);refine aH (fn:=Tryz.f50) (body:=diC) true (by kernel_rfl) (by kernel_rfl) (by kernel_rfl) ?_;by_cases h0:x < 0
 ·obtain ⟨m,hm⟩:∃m:Nat,x = -(m:Int):=⟨x.natAbs,by omega⟩;have hab:x.natAbs=m:=by omega
  have hq:Lib.itoa x=45::Lib.decDigits m:=by unfold Lib.itoa;rw [if_pos h0,hab]
  obtain ⟨k,hk⟩:∃k:Int,((m / 10:Nat):Int)=k:=⟨_,rfl⟩;obtain ⟨n,hn⟩:∃n:Int,((m % 10:Nat):Int)=n:=⟨_,rfl⟩;obtain ⟨w,hw⟩:∃w,Lib.decDigits m=w:=⟨_,rfl⟩;have e1:x.tdiv 10 = -k:=by rw [hm,Int.neg_tdiv,←hk];rfl
  have e2:x.tmod 10 = -n:=by rw [hm,Int.neg_tmod,←hn];rfl
  have e3:IntKind.i64.wrap (0-IntKind.i64.wrap (x.tdiv 10))=k:=by rw [e1,fM (-k) (by omega),fM _ (by omega)];omega
  have e4:IntKind.i64.wrap (0-x.tmod 10)=n:=by rw [e2,fM _ (by omega)];omega
  have e5:Lib.decDigits (10*k.toNat+n.toNat)=w:=by rw [←hw];congr 1;omega
  have hwl:w.length≤20:=by rw [←hw];exact Dc (by omega)
  have c1:decide ((0:Int)≤k∧k < (Nat.cast (R:=Int) i))=true:=decide_eq_true (by omega);have c2:decide ((0:Int)≤n∧n≤9)=true:=decide_eq_true (by omega);have c3:decide ([(45:UInt8)].length+w.length≤2 ^ 62)=true:=decide_eq_true (by simp only [List.length_cons,List.length_nil];omega);rw [hq,hw];exact WK.fin ok 1000 0 [(4,aj true),(7,aK k),(10,aK n),(11,aR w)] [true,true,decide (0≤k∧k < (i:Int)),decide (0≤n∧n≤9),decide (([45]:List UInt8).length+List.length w≤2 ^ 62)] [(aj (decide (x < 0)),aj true),(aK (IntKind.i64.wrap (0-IntKind.i64.wrap (x.tdiv (10)))),aK k),(aK (IntKind.i64.wrap (0-x.tmod (10))),aK n),(aR (Go.Lib.decDigits (10*k.toNat+n.toNat)),aR w)] rfl (by kernel_rfl:au (bG (VQ i)) true _ 1000 0 _ _ (bV 18 [.d (.int .i64 x)] [])=some (aR ([(45:UInt8)]++w),[],_,_)) (by refine ⟨?_,?_,?_,?_,?_,trivial⟩<;>(first | rfl | exact c1 | exact c2 | exact c3)) (by refine ⟨?_,?_,?_,?_,trivial⟩<;>(first | exact ah rfl | exact ah (decide_eq_true h0) | exact .of_eq (by rw [e3]) | exact .of_eq (by rw [e4]) | exact .of_eq (by rw [e5]))) ⟨rfl,rfl⟩
 ·obtain ⟨m,hm⟩:=Int.eq_ofNat_of_zero_le (show 0≤x by omega);have hq:Lib.itoa x=Lib.decDigits m:=by unfold Lib.itoa;rw [if_neg h0,hm];rfl
  obtain ⟨k,hk⟩:∃k:Int,((m / 10:Nat):Int)=k:=⟨_,rfl⟩;obtain ⟨n,hn⟩:∃n:Int,((m % 10:Nat):Int)=n:=⟨_,rfl⟩;obtain ⟨w,hw⟩:∃w,Lib.decDigits m=w:=⟨_,rfl⟩
  have e3:IntKind.i64.wrap (x.tdiv 10)=k:=by
   have:x.tdiv 10=k:=by rw [hm,←hk];rfl
   rw [this,fM _ (by omega)]
  have e4:x.tmod 10=n:=by rw [hm,←hn];rfl
  have e5:Lib.decDigits (10*k.toNat+n.toNat)=w:=by rw [←hw];congr 1;omega
  have c1:decide ((0:Int)≤k∧k < (Nat.cast (R:=Int) i))=true:=decide_eq_true (by omega);have c2:decide ((0:Int)≤n∧n≤9)=true:=decide_eq_true (by omega);rw [hq,hw];exact WK.fin ok 1000 0 [(4,aj false),(14,aK k),(16,aK n),(17,aR w)] [true,true,decide (0≤k∧k < (i:Int)),decide (0≤n∧n≤9)] [(aj (decide (x < 0)),aj false),(aK (IntKind.i64.wrap (x.tdiv (10))),aK k),(aK (x.tmod (10)),aK n),(aR (Go.Lib.decDigits (10*k.toNat+n.toNat)),aR w)] rfl (by kernel_rfl:au (bG (VQ i)) true _ 1000 0 _ _ (bV 18 [.d (.int .i64 x)] [])=some (aR w,[],_,_)) (by refine ⟨?_,?_,?_,?_,trivial⟩<;>(first | rfl | exact c1 | exact c2)) (by refine ⟨?_,?_,?_,?_,trivial⟩<;>(first | exact ah rfl | exact ah (decide_eq_false h0) | exact .of_eq (by rw [e3]) | exact .of_eq (by rw [e4]) | exact .of_eq (by rw [e5]))) ⟨rfl,rfl⟩
theorem MR {f:Nat} (h:∀x:Int,-9223372036854775808≤x→x≤9223372036854775807→Go.Am.C Tryz.prog f [.d (.int .i64 x)] [] (fun r ob=>r = .d (.str (Lib.itoa x))∧ob=[])):cK Tryz.prog f (e1 Xc):=by
 refine yx fun x y c hg hc=>?_;unfold Xc at hg;split at hg
 ·rename_i n;simp only [Option.some.injEq,Prod.mk.injEq] at hg;obtain ⟨rfl,rfl⟩:=hg;exact h n (of_decide_eq_true (hc (decide (-9223372036854775808≤n)) (by simp))) (of_decide_eq_true (hc (decide (n≤9223372036854775807)) (by simp)))
 ·cases hg
theorem MS:eD Tryz.prog ZR:=.cons (MR ZT) (.cons RY .nil)
theorem ZU (x:Int) (h1:-9223372036854775808≤x) (h2:x≤9223372036854775807):Go.Am.C Tryz.prog 29 [.d (.int .i64 x)] [] (fun r ob=>r = .d (.str (Lib.itoa x))∧ob=[]):=by
 have ok:=aJ MS;refine aH (fn:=Tryz.f29) (body:=drC) true (by kernel_rfl) (by kernel_rfl) (by kernel_rfl) ?_;have c1:decide (-9223372036854775808≤x)=true:=decide_eq_true h1;have c2:decide (x≤9223372036854775807)=true:=decide_eq_true h2;exact WK.fin ok 1000 0 [] [decide (-9223372036854775808≤x),decide (x≤9223372036854775807)] [] rfl (by kernel_rfl:au (bG ZR) true _ 1000 0 _ _ (bV 5 [.d (.int .i64 x)] [])=some (aR (Go.Lib.itoa x),[],_,_)) (by refine ⟨?_,?_,trivial⟩<;>(first | exact c1 | exact c2)) trivial ⟨rfl,rfl⟩
theorem ZV (x:Int) (h1:-9223372036854775808≤x) (h2:x≤9223372036854775807):Go.Am.C Tryz.prog 48 [.d (.int .i64 x)] [] (fun r ob=>r = .d (.str (Lib.itoa x))∧ob=[]):=by
 have ok:=aJ MS;refine aH (fn:=Tryz.f48) (body:=dcC) true (by kernel_rfl) (by kernel_rfl) (by kernel_rfl) ?_;have c1:decide (-9223372036854775808≤x)=true:=decide_eq_true h1;have c2:decide (x≤9223372036854775807)=true:=decide_eq_true h2;exact WK.fin ok 1000 0 [] [decide (-9223372036854775808≤x),decide (x≤9223372036854775807)] [] rfl (by kernel_rfl:au (bG ZR) true _ 1000 0 _ _ (bV 5 [.d (.int .i64 x)] [])=some (aR (Go.Lib.itoa x),[],_,_)) (by refine ⟨?_,?_,trivial⟩<;>(first | exact c1 | exact c2)) trivial ⟨rfl,rfl⟩
noncomputable abbrev wdC:Code:=dY Tryz.f24
def Gt:List DV:=(List.range 15).map fun k=>.str (kw k)
theorem SN:cK Tryz.prog 24 (e0 (some (.aC 1 Gt false,[]))):=by
 refine QE fun y c hg hc=>?_;simp only [Option.some.injEq,Prod.mk.injEq] at hg;obtain ⟨rfl,rfl⟩:=hg;have ok:=aJ (l:=[]) .nil;refine aH (fn:=Tryz.f24) (body:=wdC) true (by kernel_rfl) (by kernel_rfl) (by kernel_rfl) ?_;exact WK.fin ok 1000 0 [] [] [] rfl (by kernel_rfl:au (bG []) true _ 1000 0 _ _ (bV 2 [] [])=some (.d (.aC 1 Gt false),[],_,_)) trivial trivial ⟨rfl,rfl⟩
end Go.Proofs.YtjoefbioobdinaaGreatDoor
