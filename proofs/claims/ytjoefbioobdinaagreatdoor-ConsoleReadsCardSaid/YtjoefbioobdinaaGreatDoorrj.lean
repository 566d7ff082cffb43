/-
  Texts that the claim leans on: K7, K8, ConTx2, K9.
-/
import Derived.Test.YtjoefbioobdinaaGreatDoorri
import Derived.Lib.DecodeN
namespace Go.Proofs.YtjoefbioobdinaaGreatDoor
open Go.RowKit Am
open Go.aQ hiding cut intOf take split
set_option maxRecDepth 100000
set_option linter.unusedVariables false
set_option linter.unusedSimpArgs false
noncomputable def qV:List (Nat×kZ):=(19,GQ)::(21,e2 Zm)::(22,e2 SC)::(16,wK MV)::tr2
noncomputable abbrev mZ:Code:=eG Tryz.f7
def jX (kd nd n a x:Int) (tx:W) (kp:RV):List RV:=[.d (.int .i64 kd),.d (.int .i64 nd),.d (.int .i64 n),.d (.int .i64 a),.d (.int .u8 x),.d (.str tx),kp]
def M4:List RV:=jX 0 0 0 0 0 [] (.d (.aF 0 [] true))
def oF (f r:W) (m:Bool) (kd:Int) (fs:DV) (k:Int):iU:={ n:=147,m:=0,regs:=T.mk [(2,.ptr 200 0),(4,.d (.str f)),(5,.ptr 201 0),(6,.ptr 202 0),(7,.ptr 203 0),(8,.d fs),(9,.d (.int .i64 k))],objs:=T.mk [(200,.box aT M4),(201,.box sT [.d (.str r)]),(202,.box tT [.d (.bool m)]),(203,.box aT (jX kd 0 0 0 0 [] (.d (.aF 0 [] true))))] }
def iR (r:W) (m:Bool) (e:Int) (ac:List RV) (fs:List DV) (i:Int):iU:={ n:=147,m:=0,regs:=T.mk [(2,.ptr 200 0),(5,.ptr 201 0),(6,.ptr 202 0),(7,.ptr 203 0),(12,.ptr 204 0),(13,.ptr 205 0),(14,.ptr 206 0),(15,.gG (.func 19) [] [.ptr 206 0,.ptr 205 0]),(51,.d (.aF 1 fs false)),(52,.d (.int .i64 (fs.length:Int))),(53,.d (.int .i64 i))],objs:=T.mk [(200,.box aT M4),(201,.box sT [.d (.str r)]),(202,.box tT [.d (.bool m)]),(203,.box aT ac),(204,.box eT [.d (.int .i64 e)]),(205,.box MS [.gG (.func 17) [] [.ptr 204 0]]),(206,.box Rp [.gG (.func 18) [] [.ptr 202 0,.ptr 205 0,.ptr 201 0]])] }
def Fe (r:W) (m:Bool) (e:Int) (kd nd n a x:Int) (tx:W) (kp:List DV) (fs:List DV) (i:Int) (w:W) (pos:Nat) (rest:W):iU:={ n:=147,m:=0,regs:=T.mk [(2,.ptr 200 0),(5,.ptr 201 0),(6,.ptr 202 0),(7,.ptr 203 0),(12,.ptr 204 0),(13,.ptr 205 0),(14,.ptr 206 0),(15,.gG (.func 19) [] [.ptr 206 0,.ptr 205 0]),(51,.d (.aF 1 fs false)),(52,.d (.int .i64 (fs.length:Int))),(53,.d (.int .i64 i)),(115,.ptr 207 0)],objs:=T.mk [(200,.box aT M4),(201,.box sT [.d (.str r)]),(202,.box tT [.d (.bool m)]),(203,.box aT (jX kd nd n a x tx (.own 208 1))),(204,.box eT [.d (.int .i64 e)]),(205,.box MS [.gG (.func 17) [] [.ptr 204 0]]),(206,.box Rp [.gG (.func 18) [] [.ptr 202 0,.ptr 205 0,.ptr 201 0]]),(207,.sit w pos rest),(208,.arr tT 1 kp)] }
def M5 (r:W) (m:Bool) (e:Int) (kd nd n a x:Int) (tx:W) (kp:List DV) (fs:List DV) (i:Int):iU:={ n:=147,m:=0,regs:=T.mk [(2,.ptr 200 0),(5,.ptr 201 0),(6,.ptr 202 0),(7,.ptr 203 0),(12,.ptr 204 0),(13,.ptr 205 0),(14,.ptr 206 0),(15,.gG (.func 19) [] [.ptr 206 0,.ptr 205 0]),(51,.d (.aF 1 fs false)),(52,.d (.int .i64 (fs.length:Int))),(53,.d (.int .i64 i))],objs:=T.mk [(200,.box aT M4),(201,.box sT [.d (.str r)]),(202,.box tT [.d (.bool m)]),(203,.box aT (jX kd nd n a x tx (.own 207 1))),(204,.box eT [.d (.int .i64 e)]),(205,.box MS [.gG (.func 17) [] [.ptr 204 0]]),(206,.box Rp [.gG (.func 18) [] [.ptr 202 0,.ptr 205 0,.ptr 201 0]]),(207,.arr tT 1 kp)] }
theorem fF:eZ Tryz.prog qV:=.cons J8 (.cons Ml (.cons SE (.cons MW M0)))
def keepD (l:List Bool):DV:=if l=[] then .aF 0 [] true else .aF 1 (l.map DV.bool) false
def GR (a:aQ.Act):DV:=.agg [.int .i64 a.kind,.int .i64 a.node,.int .i64 a.n,.int .i64 a.at_,.int .u8 a.x,.str a.text,keepD a.keep]
def OI (p:aQ.Act×Int):RV:=.aZ [.d (GR p.1),.d (.int .i64 p.2)]
abbrev gY (s:W):bQ→Prop:=rR (Tryz.f7.results.toList) 0 (fun q o=>q=OI (dL s)∧o=[])
abbrev oM (s r:W) (m:Bool) (e kd nd n a x:Int) (tx:W) (fs:List DV) (i:Nat):Prop:=WK Tryz.prog 0 (av mZ 1) (iR r m e (jX kd nd n a x tx (.d (.aF 0 [] true))) fs (i:Int)).den (gY s)
theorem jK {fs:List DV} {i:Nat} {f:Int} (h:fs[i]? = some (.int .i64 f)):iI (.aN (fs.getD (Nat.cast (R:=Int) i).toNat DV.aG) 0) (.aN (.int .i64 f) 0):=.of_eq (by rw [Int.toNat_natCast,List.getD,h];rfl)
theorem jL {fs:List DV} {i:Nat} {d:DV} (h:fs[i]? = some d):i < fs.length:=(List.getElem?_eq_some_iff.1 h).1
set_option maxHeartbeats 2000000 in
theorem xJ (s r:W) (m:Bool) (e kd nd n a x:Int) (tx:W) (fs:List DV) (i:Nat) (hi:i≤1000) (hf:fs[i]? = some (.int .i64 0)) (hr:r.length≤999999)
 (nx:oM s (dh m r) (cK m r) (lX m r e) kd (kN m r) n a x tx fs (i+1)):oM s r m e kd nd n a x tx fs i:=by
 have ok:=aH fF;have hl:=jL hf;have vf:=jK hf;have vs:=dB (i:=i) (by omega);have c1:decide ((0:Int)≤(Nat.cast (R:=Int) i)∧(Nat.cast (R:=Int) i) < (Nat.cast (R:=Int) fs.length))=true:=decide_eq_true (by omega);have c2:decide (r.length≤999999)=true:=decide_eq_true hr;have c3:decide (r.length≤1000000)=true:=decide_eq_true (by omega);refine WK.cZ ok 1000 0 [(54,aj true),(55,RV.aN (aI (0)) 0),(138,aA ((i+1:Nat):Int))] [] [2,5,6,7,12,13,14,15,51,52,53] [decide (0≤(i:Int)∧(i:Int) < (fs.length:Int)),true,true,true,true,true,true,true,decide (List.length r≤999999)] [(aj (decide ((i:Int) < (fs.length:Int))),aj true),(RV.aN (fs.getD (i:Int).toNat DV.aG) 0,RV.aN (aI (0)) 0),(aA (IntKind.i64.wrap ((i:Int)+1)),aA ((i+1:Nat):Int))] rfl (by kernel_rfl:aJ (bq qV) 1000 0 _ _ _ _ (iR r m e (jX kd nd n a x tx (.d (.aF 0 [] true))) fs (i:Int))=some (av mZ 1,iR (dh m r) (cK m r) (lX m r e) (jX kd (kN m r) n a x tx (.d (.aF 0 [] true))) fs ((i+1:Nat):Int),_,_)) (by refine ⟨?_,?_,?_,?_,?_,?_,?_,?_,?_,trivial⟩<;>(first | rfl | exact c1 | exact c2 | exact c3)) (by refine ⟨?_,?_,?_,trivial⟩<;>(first | exact ah rfl | exact vf | exact vs | exact ah (decide_eq_true (by omega)))) ?_
 exact nx
set_option maxHeartbeats 2000000 in
theorem Dq (s r:W) (m:Bool) (e kd nd n a x:Int) (tx:W) (fs:List DV) (i:Nat) (hi:i≤1000) (hf:fs[i]? = some (.int .i64 1)) (hr:r.length≤999999)
 (nx:oM s (dh m r) (cK m r) (lX m r e) kd nd (kN m r) a x tx fs (i+1)):oM s r m e kd nd n a x tx fs i:=by
 have ok:=aH fF;have hl:=jL hf;have vf:=jK hf;have vs:=dB (i:=i) (by omega);have c1:decide ((0:Int)≤(Nat.cast (R:=Int) i)∧(Nat.cast (R:=Int) i) < (Nat.cast (R:=Int) fs.length))=true:=decide_eq_true (by omega);have c2:decide (r.length≤999999)=true:=decide_eq_true hr;have c3:decide (r.length≤1000000)=true:=decide_eq_true (by omega);refine WK.cZ ok 1000 0 [(54,aj true),(55,RV.aN (aI (1)) 0),(138,aA ((i+1:Nat):Int))] [] [2,5,6,7,12,13,14,15,51,52,53] [decide (0≤(i:Int)∧(i:Int) < (fs.length:Int)),true,true,true,true,true,true,true,decide (List.length r≤999999)] [(aj (decide ((i:Int) < (fs.length:Int))),aj true),(RV.aN (fs.getD (i:Int).toNat DV.aG) 0,RV.aN (aI (1)) 0),(aA (IntKind.i64.wrap ((i:Int)+1)),aA ((i+1:Nat):Int))] rfl (by kernel_rfl:aJ (bq qV) 1000 0 _ _ _ _ (iR r m e (jX kd nd n a x tx (.d (.aF 0 [] true))) fs (i:Int))=some (av mZ 1,iR (dh m r) (cK m r) (lX m r e) (jX kd nd (kN m r) a x tx (.d (.aF 0 [] true))) fs ((i+1:Nat):Int),_,_)) (by refine ⟨?_,?_,?_,?_,?_,?_,?_,?_,?_,trivial⟩<;>(first | rfl | exact c1 | exact c2 | exact c3)) (by refine ⟨?_,?_,?_,trivial⟩<;>(first | exact ah rfl | exact vf | exact vs | exact ah (decide_eq_true (by omega)))) ?_
 exact nx
set_option maxHeartbeats 2000000 in
theorem M6 (s r:W) (m:Bool) (e kd nd n a x:Int) (tx:W) (fs:List DV) (i:Nat) (hi:i≤1000) (hf:fs[i]? = some (.int .i64 2)) (hr:r.length≤999999)
 (nx:oM s (dh m r) (cK m r) (lX m r e) kd nd n (kN m r) x tx fs (i+1)):oM s r m e kd nd n a x tx fs i:=by
 have ok:=aH fF;have hl:=jL hf;have vf:=jK hf;have vs:=dB (i:=i) (by omega);have c1:decide ((0:Int)≤(Nat.cast (R:=Int) i)∧(Nat.cast (R:=Int) i) < (Nat.cast (R:=Int) fs.length))=true:=decide_eq_true (by omega);have c2:decide (r.length≤999999)=true:=decide_eq_true hr;have c3:decide (r.length≤1000000)=true:=decide_eq_true (by omega);refine WK.cZ ok 1000 0 [(54,aj true),(55,RV.aN (aI (2)) 0),(138,aA ((i+1:Nat):Int))] [] [2,5,6,7,12,13,14,15,51,52,53] [decide (0≤(i:Int)∧(i:Int) < (fs.length:Int)),true,true,true,true,true,true,true,decide (List.length r≤999999)] [(aj (decide ((i:Int) < (fs.length:Int))),aj true),(RV.aN (fs.getD (i:Int).toNat DV.aG) 0,RV.aN (aI (2)) 0),(aA (IntKind.i64.wrap ((i:Int)+1)),aA ((i+1:Nat):Int))] rfl (by kernel_rfl:aJ (bq qV) 1000 0 _ _ _ _ (iR r m e (jX kd nd n a x tx (.d (.aF 0 [] true))) fs (i:Int))=some (av mZ 1,iR (dh m r) (cK m r) (lX m r e) (jX kd nd n (kN m r) x tx (.d (.aF 0 [] true))) fs ((i+1:Nat):Int),_,_)) (by refine ⟨?_,?_,?_,?_,?_,?_,?_,?_,?_,trivial⟩<;>(first | rfl | exact c1 | exact c2 | exact c3)) (by refine ⟨?_,?_,?_,trivial⟩<;>(first | exact ah rfl | exact vf | exact vs | exact ah (decide_eq_true (by omega)))) ?_
 exact nx
set_option maxHeartbeats 2000000 in
theorem M7 (s r:W) (m:Bool) (e kd nd n a x:Int) (tx:W) (fs:List DV) (i:Nat) (hi:i≤1000) (hf:fs[i]? = some (.int .i64 3)) (hr:r.length≤999999) (q:Int) (hq:kN m r=q) (h0:q < 0)
 (nx:oM s (dh m r) (cK m r) (kS (lX m r e) 5) kd nd n a (IntKind.u8.wrap q) tx fs (i+1)):oM s r m e kd nd n a x tx fs i:=by
 have ok:=aH fF;have hl:=jL hf;have vf:=jK hf;have vs:=dB (i:=i) (by omega);have c1:decide ((0:Int)≤(Nat.cast (R:=Int) i)∧(Nat.cast (R:=Int) i) < (Nat.cast (R:=Int) fs.length))=true:=decide_eq_true (by omega);have c2:decide (r.length≤999999)=true:=decide_eq_true hr;have c3:decide (r.length≤1000000)=true:=decide_eq_true (by omega);refine WK.cZ ok 1000 0 [(54,aj true),(55,RV.aN (aI (3)) 0),(76,aA q),(78,aj true),(138,aA ((i+1:Nat):Int))] [] [2,5,6,7,12,13,14,15,51,52,53] [decide (0≤(i:Int)∧(i:Int) < (fs.length:Int)),true,true,true,true,true,true,true,decide (List.length r≤999999),true] [(aj (decide ((i:Int) < (fs.length:Int))),aj true),(RV.aN (fs.getD (i:Int).toNat DV.aG) 0,RV.aN (aI (3)) 0),(aA (Go.aQ.kN m r),aA q),(aj (decide (q < (0:Int))),aj true),(aA (IntKind.i64.wrap ((i:Int)+1)),aA ((i+1:Nat):Int))] rfl (by kernel_rfl:aJ (bq qV) 1000 0 _ _ _ _ (iR r m e (jX kd nd n a x tx (.d (.aF 0 [] true))) fs (i:Int))=some (av mZ 1,iR (dh m r) (cK m r) (kS (lX m r e) 5) (jX kd nd n a (IntKind.u8.wrap q) tx (.d (.aF 0 [] true))) fs ((i+1:Nat):Int),_,_)) (by refine ⟨?_,?_,?_,?_,?_,?_,?_,?_,?_,?_,trivial⟩<;>(first | rfl | exact c1 | exact c2 | exact c3)) (by refine ⟨?_,?_,?_,?_,?_,trivial⟩<;>(first | exact ah rfl | exact vf | exact vs | exact ah (decide_eq_true (by omega)) | exact .of_eq (by rw [hq]))) ?_
 exact nx
set_option maxHeartbeats 2000000 in
theorem M8 (s r:W) (m:Bool) (e kd nd n a x:Int) (tx:W) (fs:List DV) (i:Nat) (hi:i≤1000) (hf:fs[i]? = some (.int .i64 3)) (hr:r.length≤999999) (q:Int) (hq:kN m r=q) (h0:¬q < 0) (h1:255 < q)
 (nx:oM s (dh m r) (cK m r) (kS (lX m r e) 5) kd nd n a (IntKind.u8.wrap q) tx fs (i+1)):oM s r m e kd nd n a x tx fs i:=by
 have ok:=aH fF;have hl:=jL hf;have vf:=jK hf;have vs:=dB (i:=i) (by omega);have c1:decide ((0:Int)≤(Nat.cast (R:=Int) i)∧(Nat.cast (R:=Int) i) < (Nat.cast (R:=Int) fs.length))=true:=decide_eq_true (by omega);have c2:decide (r.length≤999999)=true:=decide_eq_true hr;have c3:decide (r.length≤1000000)=true:=decide_eq_true (by omega);refine WK.cZ ok 1000 0 [(54,aj true),(55,RV.aN (aI (3)) 0),(76,aA q),(78,aj false),(81,aj true),(138,aA ((i+1:Nat):Int))] [] [2,5,6,7,12,13,14,15,51,52,53] [decide (0≤(i:Int)∧(i:Int) < (fs.length:Int)),true,true,true,true,true,true,true,decide (List.length r≤999999),true] [(aj (decide ((i:Int) < (fs.length:Int))),aj true),(RV.aN (fs.getD (i:Int).toNat DV.aG) 0,RV.aN (aI (3)) 0),(aA (Go.aQ.kN m r),aA q),(aj (decide (q < (0:Int))),aj false),(aj (decide ((255:Int) < q)),aj true),(aA (IntKind.i64.wrap ((i:Int)+1)),aA ((i+1:Nat):Int))] rfl (by kernel_rfl:aJ (bq qV) 1000 0 _ _ _ _ (iR r m e (jX kd nd n a x tx (.d (.aF 0 [] true))) fs (i:Int))=some (av mZ 1,iR (dh m r) (cK m r) (kS (lX m r e) 5) (jX kd nd n a (IntKind.u8.wrap q) tx (.d (.aF 0 [] true))) fs ((i+1:Nat):Int),_,_)) (by refine ⟨?_,?_,?_,?_,?_,?_,?_,?_,?_,?_,trivial⟩<;>(first | rfl | exact c1 | exact c2 | exact c3)) (by refine ⟨?_,?_,?_,?_,?_,?_,trivial⟩<;>(first | exact ah rfl | exact vf | exact vs | exact ah (decide_eq_true (by omega)) | exact ah (decide_eq_false (by omega)) | exact .of_eq (by rw [hq]))) ?_
 exact nx
set_option maxHeartbeats 2000000 in
theorem M9 (s r:W) (m:Bool) (e kd nd n a x:Int) (tx:W) (fs:List DV) (i:Nat) (hi:i≤1000) (hf:fs[i]? = some (.int .i64 3)) (hr:r.length≤999999) (q:Int) (hq:kN m r=q) (h0:¬q < 0) (h1:¬255 < q)
 (nx:oM s (dh m r) (cK m r) (lX m r e) kd nd n a (IntKind.u8.wrap q) tx fs (i+1)):oM s r m e kd nd n a x tx fs i:=by
 have ok:=aH fF;have hl:=jL hf;have vf:=jK hf;have vs:=dB (i:=i) (by omega);have c1:decide ((0:Int)≤(Nat.cast (R:=Int) i)∧(Nat.cast (R:=Int) i) < (Nat.cast (R:=Int) fs.length))=true:=decide_eq_true (by omega);have c2:decide (r.length≤999999)=true:=decide_eq_true hr;have c3:decide (r.length≤1000000)=true:=decide_eq_true (by omega);refine WK.cZ ok 1000 0 [(54,aj true),(55,RV.aN (aI (3)) 0),(76,aA q),(78,aj false),(81,aj false),(138,aA ((i+1:Nat):Int))] [] [2,5,6,7,12,13,14,15,51,52,53] [decide (0≤(i:Int)∧(i:Int) < (fs.length:Int)),true,true,true,true,true,true,true,decide (List.length r≤999999)] [(aj (decide ((i:Int) < (fs.length:Int))),aj true),(RV.aN (fs.getD (i:Int).toNat DV.aG) 0,RV.aN (aI (3)) 0),(aA (Go.aQ.kN m r),aA q),(aj (decide (q < (0:Int))),aj false),(aj (decide ((255:Int) < q)),aj false),(aA (IntKind.i64.wrap ((i:Int)+1)),aA ((i+1:Nat):Int))] rfl (by kernel_rfl:aJ (bq qV) 1000 0 _ _ _ _ (iR r m e (jX kd nd n a x tx (.d (.aF 0 [] true))) fs (i:Int))=some (av mZ 1,iR (dh m r) (cK m r) (lX m r e) (jX kd nd n a (IntKind.u8.wrap q) tx (.d (.aF 0 [] true))) fs ((i+1:Nat):Int),_,_)) (by refine ⟨?_,?_,?_,?_,?_,?_,?_,?_,?_,trivial⟩<;>(first | rfl | exact c1 | exact c2 | exact c3)) (by refine ⟨?_,?_,?_,?_,?_,?_,trivial⟩<;>(first | exact ah rfl | exact vf | exact vs | exact ah (decide_eq_true (by omega)) | exact ah (decide_eq_false (by omega)) | exact .of_eq (by rw [hq]))) ?_
 exact nx
set_option maxHeartbeats 2000000 in
theorem Qa (s r:W) (m:Bool) (e kd nd n a x:Int) (tx:W) (fs:List DV) (i:Nat) (hi:i≤1000) (hf:fs[i]? = some (.int .i64 4)) (hr:r.length≤999999) (h0:nT m r=[(105:UInt8),(111:UInt8)])
 (nx:oM s (dh m r) (cK m r) (uL m e) kd nd n a 1 tx fs (i+1)):oM s r m e kd nd n a x tx fs i:=by
 have ok:=aH fF;have hl:=jL hf;have vf:=jK hf;have vs:=dB (i:=i) (by omega);have c1:decide ((0:Int)≤(Nat.cast (R:=Int) i)∧(Nat.cast (R:=Int) i) < (Nat.cast (R:=Int) fs.length))=true:=decide_eq_true (by omega);have c2:decide (r.length≤999999)=true:=decide_eq_true hr;have c3:decide (r.length≤1000000)=true:=decide_eq_true (by omega);refine WK.cZ ok 1000 0 [(54,aj true),(55,RV.aN (aI (4)) 0),(95,aj true),(138,aA ((i+1:Nat):Int))] [] [2,5,6,7,12,13,14,15,51,52,53] [decide (0≤(i:Int)∧(i:Int) < (fs.length:Int)),true,true,true,true,true,decide (List.length r≤1000000)] [(aj (decide ((i:Int) < (fs.length:Int))),aj true),(RV.aN (fs.getD (i:Int).toNat DV.aG) 0,RV.aN (aI (4)) 0),(aj (Go.aQ.nT m r==[(105:UInt8),(111:UInt8)]),aj true),(aA (IntKind.i64.wrap ((i:Int)+1)),aA ((i+1:Nat):Int))] rfl (by kernel_rfl:aJ (bq qV) 1000 0 _ _ _ _ (iR r m e (jX kd nd n a x tx (.d (.aF 0 [] true))) fs (i:Int))=some (av mZ 1,iR (dh m r) (cK m r) (uL m e) (jX kd nd n a 1 tx (.d (.aF 0 [] true))) fs ((i+1:Nat):Int),_,_)) (by refine ⟨?_,?_,?_,?_,?_,?_,?_,trivial⟩<;>(first | rfl | exact c1 | exact c2 | exact c3)) (by refine ⟨?_,?_,?_,?_,trivial⟩<;>(first | exact ah rfl | exact vf | exact vs | exact ah (decide_eq_true (by omega)) | exact ah (by rw [h0];rfl))) ?_
 exact nx
set_option maxHeartbeats 2000000 in
theorem Qb (s r:W) (m:Bool) (e kd nd n a x:Int) (tx:W) (fs:List DV) (i:Nat) (hi:i≤1000) (hf:fs[i]? = some (.int .i64 4)) (hr:r.length≤999999) (h0:nT m r=[(115:UInt8),(112:UInt8),(97:UInt8),(99:UInt8),(101:UInt8)])
 (nx:oM s (dh m r) (cK m r) (uL m e) kd nd n a x tx fs (i+1)):oM s r m e kd nd n a x tx fs i:=by
 have ok:=aH fF;have hl:=jL hf;have vf:=jK hf;have vs:=dB (i:=i) (by omega);have c1:decide ((0:Int)≤(Nat.cast (R:=Int) i)∧(Nat.cast (R:=Int) i) < (Nat.cast (R:=Int) fs.length))=true:=decide_eq_true (by omega);have c2:decide (r.length≤999999)=true:=decide_eq_true hr;have c3:decide (r.length≤1000000)=true:=decide_eq_true (by omega);refine WK.cZ ok 1000 0 [(54,aj true),(55,RV.aN (aI (4)) 0),(95,aj false),(98,aj true),(138,aA ((i+1:Nat):Int))] [] [2,5,6,7,12,13,14,15,51,52,53] [decide (0≤(i:Int)∧(i:Int) < (fs.length:Int)),true,true,true,true,true,decide (List.length r≤1000000)] [(aj (decide ((i:Int) < (fs.length:Int))),aj true),(RV.aN (fs.getD (i:Int).toNat DV.aG) 0,RV.aN (aI (4)) 0),(aj (Go.aQ.nT m r==[(105:UInt8),(111:UInt8)]),aj false),(aj (Go.aQ.nT m r==[(115:UInt8),(112:UInt8),(97:UInt8),(99:UInt8),(101:UInt8)]),aj true),(aA (IntKind.i64.wrap ((i:Int)+1)),aA ((i+1:Nat):Int))] rfl (by kernel_rfl:aJ (bq qV) 1000 0 _ _ _ _ (iR r m e (jX kd nd n a x tx (.d (.aF 0 [] true))) fs (i:Int))=some (av mZ 1,iR (dh m r) (cK m r) (uL m e) (jX kd nd n a x tx (.d (.aF 0 [] true))) fs ((i+1:Nat):Int),_,_)) (by refine ⟨?_,?_,?_,?_,?_,?_,?_,trivial⟩<;>(first | rfl | exact c1 | exact c2 | exact c3)) (by refine ⟨?_,?_,?_,?_,?_,trivial⟩<;>(first | exact ah rfl | exact vf | exact vs | exact ah (decide_eq_true (by omega)) | exact ah (by rw [h0];rfl))) ?_
 exact nx
set_option maxHeartbeats 2000000 in
theorem Qc (s r:W) (m:Bool) (e kd nd n a x:Int) (tx:W) (fs:List DV) (i:Nat) (hi:i≤1000) (hf:fs[i]? = some (.int .i64 4)) (hr:r.length≤999999) (h0:nT m r≠[(105:UInt8),(111:UInt8)]) (h1:nT m r≠[(115:UInt8),(112:UInt8),(97:UInt8),(99:UInt8),(101:UInt8)])
 (nx:oM s (dh m r) (cK m r) (kS (uL m e) 6) kd nd n a x tx fs (i+1)):oM s r m e kd nd n a x tx fs i:=by
 have ok:=aH fF;have hl:=jL hf;have vf:=jK hf;have vs:=dB (i:=i) (by omega);have c1:decide ((0:Int)≤(Nat.cast (R:=Int) i)∧(Nat.cast (R:=Int) i) < (Nat.cast (R:=Int) fs.length))=true:=decide_eq_true (by omega);have c2:decide (r.length≤999999)=true:=decide_eq_true hr;have c3:decide (r.length≤1000000)=true:=decide_eq_true (by omega);refine WK.cZ ok 1000 0 [(54,aj true),(55,RV.aN (aI (4)) 0),(95,aj false),(98,aj false),(138,aA ((i+1:Nat):Int))] [] [2,5,6,7,12,13,14,15,51,52,53] [decide (0≤(i:Int)∧(i:Int) < (fs.length:Int)),true,true,true,true,true,decide (List.length r≤1000000),true] [(aj (decide ((i:Int) < (fs.length:Int))),aj true),(RV.aN (fs.getD (i:Int).toNat DV.aG) 0,RV.aN (aI (4)) 0),(aj (Go.aQ.nT m r==[(105:UInt8),(111:UInt8)]),aj false),(aj (Go.aQ.nT m r==[(115:UInt8),(112:UInt8),(97:UInt8),(99:UInt8),(101:UInt8)]),aj false),(aA (IntKind.i64.wrap ((i:Int)+1)),aA ((i+1:Nat):Int))] rfl (by kernel_rfl:aJ (bq qV) 1000 0 _ _ _ _ (iR r m e (jX kd nd n a x tx (.d (.aF 0 [] true))) fs (i:Int))=some (av mZ 1,iR (dh m r) (cK m r) (kS (uL m e) 6) (jX kd nd n a x tx (.d (.aF 0 [] true))) fs ((i+1:Nat):Int),_,_)) (by refine ⟨?_,?_,?_,?_,?_,?_,?_,?_,trivial⟩<;>(first | rfl | exact c1 | exact c2 | exact c3)) (by refine ⟨?_,?_,?_,?_,?_,trivial⟩<;>(first | exact ah rfl | exact vf | exact vs | exact ah (decide_eq_true (by omega)) | exact ah (beq_false_of_ne h0) | exact ah (beq_false_of_ne h1))) ?_
 exact nx
set_option maxHeartbeats 2000000 in
theorem Na (s r:W) (m:Bool) (e kd nd n a x:Int) (tx:W) (fs:List DV) (i:Nat) (hi:i≤1000) (hf:fs[i]? = some (.int .i64 5)) (hr:r.length≤999999) (h0:m=false)
 (nx:oM s r m e kd nd n a x tx fs (i+1)):oM s r m e kd nd n a x tx fs i:=by
 have ok:=aH fF;have hl:=jL hf;have vf:=jK hf;have vs:=dB (i:=i) (by omega);have c1:decide ((0:Int)≤(Nat.cast (R:=Int) i)∧(Nat.cast (R:=Int) i) < (Nat.cast (R:=Int) fs.length))=true:=decide_eq_true (by omega);have c2:decide (r.length≤999999)=true:=decide_eq_true hr;have c3:decide (r.length≤1000000)=true:=decide_eq_true (by omega);refine WK.cZ ok 1000 0 [(54,aj true),(55,RV.aN (aI (5)) 0),(102,aj true),(138,aA ((i+1:Nat):Int))] [] [2,5,6,7,12,13,14,15,51,52,53] [decide (0≤(i:Int)∧(i:Int) < (fs.length:Int))] [(aj (decide ((i:Int) < (fs.length:Int))),aj true),(RV.aN (fs.getD (i:Int).toNat DV.aG) 0,RV.aN (aI (5)) 0),(aj !m,aj true),(aA (IntKind.i64.wrap ((i:Int)+1)),aA ((i+1:Nat):Int))] rfl (by kernel_rfl:aJ (bq qV) 1000 0 _ _ _ _ (iR r m e (jX kd nd n a x tx (.d (.aF 0 [] true))) fs (i:Int))=some (av mZ 1,iR r m e (jX kd nd n a x tx (.d (.aF 0 [] true))) fs ((i+1:Nat):Int),_,_)) ⟨(by first | rfl | exact c1 | exact c2 | exact c3),trivial⟩ (by refine ⟨?_,?_,?_,?_,trivial⟩<;>(first | exact ah rfl | exact vf | exact vs | exact ah (decide_eq_true (by omega)) | exact ah (by rw [h0];rfl))) ?_
 exact nx
set_option maxHeartbeats 2000000 in
theorem Nb (s r:W) (m:Bool) (e kd nd n a x:Int) (tx:W) (fs:List DV) (i:Nat) (hi:i≤1000) (hf:fs[i]? = some (.int .i64 6)) (hr:r.length≤999999) (h0:m=false)
 (nx:oM s r false (kS e 6) kd nd n a x r fs (i+1)):oM s r m e kd nd n a x tx fs i:=by
 have ok:=aH fF;have hl:=jL hf;have vf:=jK hf;have vs:=dB (i:=i) (by omega);have c1:decide ((0:Int)≤(Nat.cast (R:=Int) i)∧(Nat.cast (R:=Int) i) < (Nat.cast (R:=Int) fs.length))=true:=decide_eq_true (by omega);have c2:decide (r.length≤999999)=true:=decide_eq_true hr;have c3:decide (r.length≤1000000)=true:=decide_eq_true (by omega);refine WK.cZ ok 1000 0 [(54,aj true),(55,RV.aN (aI (6)) 0),(129,aj true),(138,aA ((i+1:Nat):Int))] [] [2,5,6,7,12,13,14,15,51,52,53] [decide (0≤(i:Int)∧(i:Int) < (fs.length:Int)),true] [(aj (decide ((i:Int) < (fs.length:Int))),aj true),(RV.aN (fs.getD (i:Int).toNat DV.aG) 0,RV.aN (aI (6)) 0),(aj !m,aj true),(aA (IntKind.i64.wrap ((i:Int)+1)),aA ((i+1:Nat):Int))] rfl (by kernel_rfl:aJ (bq qV) 1000 0 _ _ _ _ (iR r m e (jX kd nd n a x tx (.d (.aF 0 [] true))) fs (i:Int))=some (av mZ 1,iR r false (kS e 6) (jX kd nd n a x r (.d (.aF 0 [] true))) fs ((i+1:Nat):Int),_,_)) (by refine ⟨?_,?_,trivial⟩<;>(first | rfl | exact c1 | exact c2 | exact c3)) (by refine ⟨?_,?_,?_,?_,trivial⟩<;>(first | exact ah rfl | exact vf | exact vs | exact ah (decide_eq_true (by omega)) | exact ah (by rw [h0];rfl))) ?_
 exact nx
set_option maxHeartbeats 2000000 in
theorem Nc (s r:W) (m:Bool) (e kd nd n a x:Int) (tx:W) (fs:List DV) (i:Nat) (hi:i≤1000) (hf:fs[i]? = some (.int .i64 6)) (hr:r.length≤999999) (h0:m=true) (h1:(0:Int)≤Lib.indexByte r 10)
 (nx:oM s r false (kS e 6) kd nd n a x r fs (i+1)):oM s r m e kd nd n a x tx fs i:=by
 have ok:=aH fF;have hl:=jL hf;have vf:=jK hf;have vs:=dB (i:=i) (by omega);have c1:decide ((0:Int)≤(Nat.cast (R:=Int) i)∧(Nat.cast (R:=Int) i) < (Nat.cast (R:=Int) fs.length))=true:=decide_eq_true (by omega);have c2:decide (r.length≤999999)=true:=decide_eq_true hr;have c3:decide (r.length≤1000000)=true:=decide_eq_true (by omega);refine WK.cZ ok 1000 0 [(54,aj true),(55,RV.aN (aI (6)) 0),(129,aj false),(132,aj true),(138,aA ((i+1:Nat):Int))] [] [2,5,6,7,12,13,14,15,51,52,53] [decide (0≤(i:Int)∧(i:Int) < (fs.length:Int)),true] [(aj (decide ((i:Int) < (fs.length:Int))),aj true),(RV.aN (fs.getD (i:Int).toNat DV.aG) 0,RV.aN (aI (6)) 0),(aj !m,aj false),(aj (decide (0≤Go.Lib.indexByte r (10))),aj true),(aA (IntKind.i64.wrap ((i:Int)+1)),aA ((i+1:Nat):Int))] rfl (by kernel_rfl:aJ (bq qV) 1000 0 _ _ _ _ (iR r m e (jX kd nd n a x tx (.d (.aF 0 [] true))) fs (i:Int))=some (av mZ 1,iR r false (kS e 6) (jX kd nd n a x r (.d (.aF 0 [] true))) fs ((i+1:Nat):Int),_,_)) (by refine ⟨?_,?_,trivial⟩<;>(first | rfl | exact c1 | exact c2 | exact c3)) (by refine ⟨?_,?_,?_,?_,?_,trivial⟩<;>(first | exact ah rfl | exact vf | exact vs | exact ah (decide_eq_true (by omega)) | exact ah (by rw [h0];rfl) | exact ah (decide_eq_true h1))) ?_
 exact nx
set_option maxHeartbeats 2000000 in
theorem Nf (s r:W) (m:Bool) (e kd nd n a x:Int) (tx:W) (fs:List DV) (i:Nat) (hi:i≤1000) (hf:fs[i]? = some (.int .i64 6)) (hr:r.length≤999999) (h0:m=true) (h1:¬(0:Int)≤Lib.indexByte r 10)
 (nx:oM s r false e kd nd n a x r fs (i+1)):oM s r m e kd nd n a x tx fs i:=by
 have ok:=aH fF;have hl:=jL hf;have vf:=jK hf;have vs:=dB (i:=i) (by omega);have c1:decide ((0:Int)≤(Nat.cast (R:=Int) i)∧(Nat.cast (R:=Int) i) < (Nat.cast (R:=Int) fs.length))=true:=decide_eq_true (by omega);have c2:decide (r.length≤999999)=true:=decide_eq_true hr;have c3:decide (r.length≤1000000)=true:=decide_eq_true (by omega);refine WK.cZ ok 1000 0 [(54,aj true),(55,RV.aN (aI (6)) 0),(129,aj false),(132,aj false),(138,aA ((i+1:Nat):Int))] [] [2,5,6,7,12,13,14,15,51,52,53] [decide (0≤(i:Int)∧(i:Int) < (fs.length:Int))] [(aj (decide ((i:Int) < (fs.length:Int))),aj true),(RV.aN (fs.getD (i:Int).toNat DV.aG) 0,RV.aN (aI (6)) 0),(aj !m,aj false),(aj (decide (0≤Go.Lib.indexByte r (10))),aj false),(aA (IntKind.i64.wrap ((i:Int)+1)),aA ((i+1:Nat):Int))] rfl (by kernel_rfl:aJ (bq qV) 1000 0 _ _ _ _ (iR r m e (jX kd nd n a x tx (.d (.aF 0 [] true))) fs (i:Int))=some (av mZ 1,iR r false e (jX kd nd n a x r (.d (.aF 0 [] true))) fs ((i+1:Nat):Int),_,_)) ⟨(by first | rfl | exact c1 | exact c2 | exact c3),trivial⟩ (by refine ⟨?_,?_,?_,?_,?_,trivial⟩<;>(first | exact ah rfl | exact vf | exact vs | exact ah (decide_eq_true (by omega)) | exact ah (by rw [h0];rfl) | exact ah (decide_eq_false h1))) ?_
 exact nx
theorem J9 (e:Int):kS e 6≠0:=by
 unfold kS;split
 ·omega
 ·simp
theorem vJ {A:aQ.Act} {e:Int}:aQ.stop A true e=({},kS e 6):=by unfold aQ.stop;simp only [if_true];rw [if_neg (J9 e)]
theorem Bq {A:aQ.Act} {e:Int} (h:e≠0):aQ.stop A false e=({},e):=by unfold aQ.stop;simp only [Bool.false_eq_true,if_false];rw [if_neg h]
theorem xG {A:aQ.Act}:aQ.stop A false 0=(A,0):=rfl
set_option maxHeartbeats 2000000 in
theorem jY (s r:W) (m:Bool) (e kd nd n a x:Int) (tx:W) (fs:List DV) (i:Nat) (hi:i=fs.length) (hq:dL s=aQ.stop { kind:=kd,node:=nd,n:=n,at_:=a,x:=x,text:=tx } m e):oM s r m e kd nd n a x tx fs i:=by
 have ok:=aH fF;cases hm:m with
 | true=>
   have h6:=J9 e;have hb:(kS e 6 != 0)=true:=bne_iff_ne.2 h6;rw [hm,vJ] at hq;exact WK.fin ok 1000 0 [(54,aj false),(139,aj true),(143,aj true)] [true] [(aj (decide ((i:Int) < (fs.length:Int))),aj false),(aj true,aj true),(aj (Go.aQ.kS e (6) != 0),aj true)] rfl (by kernel_rfl:au (bq qV) true _ 1000 0 _ _ (iR r true e (jX kd nd n a x tx (.d (.aF 0 [] true))) fs (i:Int))=some (RV.aZ [RV.d (DV.agg [aI (0),aI (0),aI (0),aI (0),aU (0),DV.str [],DV.aF 0 [] true]),aA (Go.aQ.kS e (6))],[],_,_)) ⟨(by rfl),trivial⟩ (by refine ⟨?_,?_,?_,trivial⟩<;>(first | exact ah rfl | exact ah (decide_eq_false (by omega)) | exact ah hb)) ⟨by rw [hq];rfl,rfl⟩
 | false=>
   rw [hm] at hq;by_cases he:e=0
   ·rw [he,xG] at hq;have hb:(e != 0)=false:=by rw [he];rfl
    exact WK.fin ok 1000 0 [(54,aj false),(139,aj false),(143,aj false)] [] [(aj (decide ((i:Int) < (fs.length:Int))),aj false),(aj false,aj false),(aj (e != 0),aj false)] rfl (by kernel_rfl:au (bq qV) true _ 1000 0 _ _ (iR r false e (jX kd nd n a x tx (.d (.aF 0 [] true))) fs (i:Int))=some (RV.aZ [RV.d (DV.agg [aI kd,aI nd,aI n,aI a,aU x,DV.str tx,(.aF 0 [] true)]),aA (0)],[],_,_)) trivial (by refine ⟨?_,?_,?_,trivial⟩<;>(first | exact ah rfl | exact ah (decide_eq_false (by omega)) | exact ah hb)) ⟨by rw [hq];rfl,rfl⟩
   ·have hb:(e != 0)=true:=bne_iff_ne.2 he;rw [Bq he] at hq;exact WK.fin ok 1000 0 [(54,aj false),(139,aj false),(143,aj true)] [] [(aj (decide ((i:Int) < (fs.length:Int))),aj false),(aj false,aj false),(aj (e != 0),aj true)] rfl (by kernel_rfl:au (bq qV) true _ 1000 0 _ _ (iR r false e (jX kd nd n a x tx (.d (.aF 0 [] true))) fs (i:Int))=some (RV.aZ [RV.d (DV.agg [aI (0),aI (0),aI (0),aI (0),aU (0),DV.str [],DV.aF 0 [] true]),aA e],[],_,_)) trivial (by refine ⟨?_,?_,?_,trivial⟩<;>(first | exact ah rfl | exact ah (decide_eq_false (by omega)) | exact ah hb)) ⟨by rw [hq];rfl,rfl⟩
abbrev Rd3 (s r:W) (m:Bool) (e kd nd n a x:Int) (tx:W) (ks:List DV) (fs:List DV) (i:Nat):Prop:=WK Tryz.prog 0 (av mZ 1) (M5 r m e kd nd n a x tx ks fs (i:Int)).den (gY s)
set_option maxHeartbeats 2000000 in
theorem Qd (s r:W) (m:Bool) (e kd nd n a x:Int) (tx:W) (kl:List Bool) (ks:List DV) (fs:List DV) (i:Nat) (hi:i=fs.length) (hq:dL s=aQ.stop { kind:=kd,node:=nd,n:=n,at_:=a,x:=x,text:=tx,keep:=kl } m e) (hk:e=0→ks=kl.map DV.bool∧kl≠[]):Rd3 s r m e kd nd n a x tx ks fs i:=by
 have ok:=aH fF;cases hm:m with
 | true=>
   have h6:=J9 e;have hb:(kS e 6 != 0)=true:=bne_iff_ne.2 h6;rw [hm,vJ] at hq;exact WK.fin ok 1000 0 [(54,aj false),(139,aj true),(143,aj true)] [true] [(aj (decide ((i:Int) < (fs.length:Int))),aj false),(aj true,aj true),(aj (Go.aQ.kS e (6) != 0),aj true)] rfl (by kernel_rfl:au (bq qV) true _ 1000 0 _ _ (M5 r true e kd nd n a x tx ks fs (i:Int))=some (RV.aZ [RV.d (DV.agg [aI (0),aI (0),aI (0),aI (0),aU (0),DV.str [],DV.aF 0 [] true]),aA (Go.aQ.kS e (6))],[],_,_)) ⟨(by rfl),trivial⟩ (by refine ⟨?_,?_,?_,trivial⟩<;>(first | exact ah rfl | exact ah (decide_eq_false (by omega)) | exact ah hb)) ⟨by rw [hq];rfl,rfl⟩
 | false=>
   rw [hm] at hq;by_cases he:e=0
   ·obtain ⟨k1,k2⟩:=hk he;rw [he,xG] at hq;have hb:(e != 0)=false:=by rw [he];rfl
    have k3:keepD kl = .aF 1 ks false:=by unfold keepD;rw [if_neg k2,k1]
    have k4:OI (({ kind:=kd,node:=nd,n:=n,at_:=a,x:=x,text:=tx,keep:=kl }:aQ.Act),0) = .aZ [.d (.agg [.int .i64 kd,.int .i64 nd,.int .i64 n,.int .i64 a,.int .u8 x,.str tx,.aF 1 ks false]),.d (.int .i64 0)]:=by
     unfold OI GR;simp only [k3]
    exact WK.fin ok 1000 0 [(54,aj false),(139,aj false),(143,aj false)] [] [(aj (decide ((i:Int) < (fs.length:Int))),aj false),(aj false,aj false),(aj (e != 0),aj false)] rfl (by kernel_rfl:au (bq qV) true _ 1000 0 _ _ (M5 r false e kd nd n a x tx ks fs (i:Int))=some (RV.aZ [RV.d (DV.agg [aI kd,aI nd,aI n,aI a,aU x,DV.str tx,DV.aF 1 ks false]),aA (0)],[],_,_)) trivial (by refine ⟨?_,?_,?_,trivial⟩<;>(first | exact ah rfl | exact ah (decide_eq_false (by omega)) | exact ah hb)) ⟨by rw [hq,k4],rfl⟩
   ·have hb:(e != 0)=true:=bne_iff_ne.2 he;rw [Bq he] at hq;exact WK.fin ok 1000 0 [(54,aj false),(139,aj false),(143,aj true)] [] [(aj (decide ((i:Int) < (fs.length:Int))),aj false),(aj false,aj false),(aj (e != 0),aj true)] rfl (by kernel_rfl:au (bq qV) true _ 1000 0 _ _ (M5 r false e kd nd n a x tx ks fs (i:Int))=some (RV.aZ [RV.d (DV.agg [aI (0),aI (0),aI (0),aI (0),aU (0),DV.str [],DV.aF 0 [] true]),aA e],[],_,_)) trivial (by refine ⟨?_,?_,?_,trivial⟩<;>(first | exact ah rfl | exact ah (decide_eq_false (by omega)) | exact ah hb)) ⟨by rw [hq];rfl,rfl⟩
theorem Tw (c:UInt8) (w:W) (pos:Nat):1≤Gc c w pos:=by
 unfold Gc;cases Nat.ble c.toNat 127 with
 | true=>exact Nat.le_refl _
 | false=>
   show 1≤(Utf8.decode _ _).2
   rw [Lib.decode_at];unfold Lib.decodeN;split
   ·exact Nat.le_refl _
   ·split
    ·split<;>simp
    ·split
     ·split<;>simp
     ·split
      ·split<;>simp
      ·simp
theorem XL {c:UInt8} (h:(c==43||c==45)=true) (w:W) (pos:Nat):Q5 c w pos=(c.toNat:Int)∧Gc c w pos=1:=by
 have hc:Nat.ble c.toNat 127=true:=by
  rcases Bool.or_eq_true ..▸h with h | h<;>(rw [beq_iff_eq.1 h];rfl)
 unfold Q5 Gc;rw [hc];exact ⟨rfl,rfl⟩
theorem Tx {c:UInt8}:((c.toNat:Int)==43)=(c==43):=by
 by_cases h:c=43
 ·subst h;rfl
 ·rw [beq_false_of_ne h];refine beq_false_of_ne fun e=>h (UInt8.toNat_inj.1 ?_)
  have:c.toNat=43:=by omega
  exact this
set_option maxHeartbeats 2000000 in
theorem Br (s r:W) (m:Bool) (e kd nd n a x:Int) (tx:W) (fs:List DV) (i:Nat) (hi:i≤1000) (w:W) (hw:w.length≤1000000)
 (hg:e=0→(w.all fun c=>c==43||c==45)=true)
 (nx:∀ks,(e=0→ks=(dD w).map DV.bool)→Rd3 s r m e kd nd n a x tx ks fs (i+1)) :
 WK Tryz.prog 0 (av mZ 2) (Fe r m e kd nd n a x tx [] fs (i:Int) w 0 w).den (gY s):=by
 have ok:=aH fF;have vs:=dB (i:=i) (by omega);refine WK.rec' (fun p:List DV×Nat×W=>Fe r m e kd nd n a x tx p.1 fs (i:Int) w p.2.1 p.2.2) (fun p=>p.2.2=w.drop p.2.1∧p.1.length+p.2.2.length≤w.length∧(e=0→(p.2.2.all fun c=>c==43||c==45)=true∧∃kl,p.1=kl.map DV.bool∧kl++dD p.2.2=dD w)) (fun p=>p.2.2.length) ?_ ([],0,w) ⟨rfl,by simp,fun h=>⟨hg h,[],rfl,rfl⟩⟩
 rintro ⟨ks,pos,rest⟩ ⟨h1,h2,h3⟩ ih
 simp only at h1 h2 h3;cases rest with
 | nil=>
   have hn:=nx ks (fun h=>by
    obtain ⟨_,kl,e1,e2⟩:=h3 h;rw [e1,←e2];simp [dD])
   refine WK.cZ ok 1000 0 [(138,aA ((i+1:Nat):Int))] [] [2,5,6,7,12,13,14,15,51,52,53] [] [(aA (IntKind.i64.wrap ((i:Int)+1)),aA ((i+1:Nat):Int))] rfl (by kernel_rfl:aJ (bq qV) 1000 0 _ _ _ _ (Fe r m e kd nd n a x tx ks fs (i:Int) w pos [])=some (av mZ 1,M5 r m e kd nd n a x tx ks fs ((i+1:Nat):Int),_,_)) trivial ⟨(by first | exact ah rfl | exact vs),trivial⟩ ?_;exact hn
 | cons c t1=>
   obtain ⟨b,hb⟩:∃b,(Q5 c w pos==43)=b:=⟨_,rfl⟩;have hp:=Tw c w pos;have c1:decide ((ks.length+[DV.bool b].length)*1≤2 ^ 38)=true:=decide_eq_true (by simp only [List.length_cons,List.length_nil] at h2 ⊢;omega)
   have hn:=ih (ks++[.bool b],pos+Gc c w pos,(c::t1).drop (Gc c w pos)) ⟨by simp only;rw [h1,List.drop_drop],by simp only [List.length_append,List.length_drop,List.length_cons,List.length_nil] at h2 ⊢;omega,fun h=>by
    obtain ⟨g1,kl,g2,g3⟩:=h3 h;rw [List.all_cons,Bool.and_eq_true] at g1;obtain ⟨p1,p2⟩:=XL g1.1 w pos;refine ⟨by simp only [p2];exact g1.2,kl++[b],by simp only [g2,List.map_append];rfl,?_⟩;simp only [p2,List.drop_succ_cons,List.drop_zero];rw [←g3,←hb,p1,Tx];simp [dD]⟩ (by simp only [List.length_drop,List.length_cons];omega)
   simp only at hn;refine WK.cZ ok 1000 0 [(122,aj b)] [] [2,5,6,7,12,13,14,15,51,52,53,115] [decide ((ks.length+[aB b].length)*Go.Proofs.Tryz.prog.types[4].bytes≤2 ^ 38)] [(aj (Q5 c w pos==43),aj b)] rfl (by kernel_rfl:aJ (bq qV) 1000 0 _ _ _ _ (Fe r m e kd nd n a x tx ks fs (i:Int) w pos (c::t1))=some (av mZ 2,Fe r m e kd nd n a x tx (ks++[.bool b]) fs (i:Int) w (pos+Gc c w pos) ((c::t1).drop (Gc c w pos)),_,_)) ⟨(by first | rfl | exact c1),trivial⟩ ⟨(by first | exact ah rfl | exact ah hb),trivial⟩ ?_;exact hn
def za (r:W) (m:Bool) (e:Int) (kd nd n a x:Int) (tx:W) (fs:List DV) (i:Int) (w:W):iU:={ n:=147,m:=0,regs:=T.mk [(2,.ptr 200 0),(5,.ptr 201 0),(6,.ptr 202 0),(7,.ptr 203 0),(12,.ptr 204 0),(13,.ptr 205 0),(14,.ptr 206 0),(15,.gG (.func 19) [] [.ptr 206 0,.ptr 205 0]),(51,.d (.aF 1 fs false)),(52,.d (.int .i64 (fs.length:Int))),(53,.d (.int .i64 i)),(115,.ptr 207 0)],objs:=T.mk [(200,.box aT M4),(201,.box sT [.d (.str r)]),(202,.box tT [.d (.bool m)]),(203,.box aT (jX kd nd n a x tx (.d (.aF 0 [] true)))),(204,.box eT [.d (.int .i64 e)]),(205,.box MS [.gG (.func 17) [] [.ptr 204 0]]),(206,.box Rp [.gG (.func 18) [] [.ptr 202 0,.ptr 205 0,.ptr 201 0]]),(207,.sit w 0 w)] }
theorem Ng (r:W) (m:Bool) (e:Int) (kd nd n a x:Int) (tx:W) (fs:List DV) (i:Int) (w:W):(Fe r m e kd nd n a x tx [] fs i w 0 w).den = { (za r m e kd nd n a x tx fs i w).den with O:=bA (bA (za r m e kd nd n a x tx fs i w).den.O 208 (some (.arr tT 1 []))) 203 (some (.box aT ((jX kd nd n a x tx (.d (.aF 0 [] true))).set 6 (.own 208 1)))) }:=by
 simp only [iU.den,Fe,za];congr 1;funext q;by_cases h3:q=203
 ·subst h3;rfl
 by_cases h8:q=208
 ·subst h8;rfl
 rw [dM _ _ h3,dM _ _ h8];simp only [T.mk];by_cases h0:q=200
 ·subst h0;rfl
 by_cases h1:q=201
 ·subst h1;rfl
 by_cases h2:q=202
 ·subst h2;rfl
 by_cases h4:q=204
 ·subst h4;rfl
 by_cases h5:q=205
 ·subst h5;rfl
 by_cases h6:q=206
 ·subst h6;rfl
 by_cases h7:q=207
 ·subst h7;rfl
 simp only [T.bU _ h0,T.bU _ h1,T.bU _ h2,T.bU _ h3,T.bU _ h4,T.bU _ h5,T.bU _ h6,T.bU _ h7,T.bU _ h8]
theorem Bt (s r:W) (m:Bool) (e kd nd n a x:Int) (tx:W) (fs:List DV) (i:Nat) (w:W) (hk:WK Tryz.prog 0 (av mZ 2) (Fe r m e kd nd n a x tx [] fs (i:Int) w 0 w).den (gY s)):WK Tryz.prog 0 (av mZ 2) (za r m e kd nd n a x tx fs (i:Int) w).den (gY s):=
 WK.y9 (i:=203) (j:=6) (sl:=208) (T:=aT) (ty:=tT) (sz:=1) (sz':=0) (cs:=jX kd nd n a x tx (.d (.aF 0 [] true))) rfl rfl rfl (Ng r m e kd nd n a x tx fs (i:Int) w) hk
set_option maxHeartbeats 4000000 in
theorem Qe (s r:W) (m:Bool) (e kd nd n a x:Int) (tx:W) (fs:List DV) (i:Nat) (hi:i≤1000) (hf:fs[i]? = some (.int .i64 5)) (hr:r.length≤999999) (hm:m=true) (w:W) (hw:nT m r=w)
 (nx:∀ks,((if gM w=true then uL m e else kS (uL m e) 6)=0→ks=(dD w).map DV.bool)→Rd3 s (dh m r) (cK m r) (if gM w=true then uL m e else kS (uL m e) 6) kd nd n a x tx ks fs (i+1)):oM s r m e kd nd n a x tx fs i:=by
 have ok:=aH fF;have hl:=jL hf;have vf:=jK hf;have c1:decide ((0:Int)≤(Nat.cast (R:=Int) i)∧(Nat.cast (R:=Int) i) < (Nat.cast (R:=Int) fs.length))=true:=decide_eq_true (by omega);have c3:decide (r.length≤1000000)=true:=decide_eq_true (by omega);have em:(!m)=false:=by rw [hm];rfl
 have hwl:w.length≤1000000:=by rw [←hw];have:=Dn m r;omega
 have c4:Nat.ble w.length 1000000000=true:=Nat.ble_eq_true_of_le (by omega);by_cases hk:gM w=true
 ·simp only [if_pos hk] at nx;have hk2:=hk;unfold gM at hk2;rw [Bool.and_eq_true] at hk2;have h1:w≠[]:=by simpa using hk2.1
  have ht:(!(Lib.trimS w [43,45]==[]))=false:=by rw [I9.2 hk2.2];rfl
  have hn:=Bt s _ _ _ kd nd n a x tx fs i w (Br s (dh m r) (cK m r) (uL m e) kd nd n a x tx fs i hi w hwl (fun _=>hk2.2) nx);refine WK.cZ ok 1000 0 [(54,aj true),(55,RV.aN (aI (5)) 0),(102,aj false),(104,dH w),(106,aj false),(110,aj false)] [] [2,5,6,7,12,13,14,15,51,52,53,115] [decide (0≤(i:Int)∧(i:Int) < (fs.length:Int)),true,true,true,true,true,decide (List.length r≤1000000),(List.length w).ble 1000000000,true,true] [(aj (decide ((i:Int) < (fs.length:Int))),aj true),(RV.aN (fs.getD (i:Int).toNat DV.aG) 0,RV.aN (aI (5)) 0),(aj !m,aj false),(dH (Go.aQ.nT m r),dH w),(aj (w==[]),aj false),(aj !Go.Lib.trimS w [(43:UInt8),(45:UInt8)]==[],aj false)] rfl (by kernel_rfl:aJ (bq qV) 1000 0 _ _ _ _ (iR r m e (jX kd nd n a x tx (.d (.aF 0 [] true))) fs (i:Int))=some (av mZ 2,za (dh m r) (cK m r) (uL m e) kd nd n a x tx fs (i:Int) w,_,_)) (by refine ⟨?_,?_,?_,?_,?_,?_,?_,?_,?_,?_,trivial⟩<;>(first | rfl | exact c1 | exact c3 | exact c4)) (by refine ⟨?_,?_,?_,?_,?_,?_,trivial⟩<;>(first | exact ah rfl | exact vf | exact ah (decide_eq_true (by omega)) | exact ah em | exact .of_eq (by rw [hw]) | exact ah (beq_false_of_ne h1) | exact ah ht)) ?_
  exact hn
 ·simp only [if_neg hk] at nx;have hn:=Bt s _ _ _ kd nd n a x tx fs i w (Br s (dh m r) (cK m r) (kS (uL m e) 6) kd nd n a x tx fs i hi w hwl (fun h=>absurd h (J9 _)) nx);by_cases h1:w=[]
  ·have h2:(w==[])=true:=by rw [h1];rfl
   refine WK.cZ ok 1000 0 [(54,aj true),(55,RV.aN (aI (5)) 0),(102,aj false),(104,dH w),(106,aj true)] [] [2,5,6,7,12,13,14,15,51,52,53,115] [decide (0≤(i:Int)∧(i:Int) < (fs.length:Int)),true,true,true,true,true,decide (List.length r≤1000000),true] [(aj (decide ((i:Int) < (fs.length:Int))),aj true),(RV.aN (fs.getD (i:Int).toNat DV.aG) 0,RV.aN (aI (5)) 0),(aj !m,aj false),(dH (Go.aQ.nT m r),dH w),(aj (w==[]),aj true)] rfl (by kernel_rfl:aJ (bq qV) 1000 0 _ _ _ _ (iR r m e (jX kd nd n a x tx (.d (.aF 0 [] true))) fs (i:Int))=some (av mZ 2,za (dh m r) (cK m r) (kS (uL m e) 6) kd nd n a x tx fs (i:Int) w,_,_)) (by refine ⟨?_,?_,?_,?_,?_,?_,?_,?_,trivial⟩<;>(first | rfl | exact c1 | exact c3 | exact c4)) (by refine ⟨?_,?_,?_,?_,?_,trivial⟩<;>(first | exact ah rfl | exact vf | exact ah (decide_eq_true (by omega)) | exact ah em | exact .of_eq (by rw [hw]) | exact ah h2)) ?_
   exact hn
  ·have ht:(!(Lib.trimS w [43,45]==[]))=true:=by
    rw [Bool.not_eq_true',beq_false_of_ne];intro h;refine hk ?_;unfold gM;rw [I9.1 h,Bool.and_true];simpa using h1
   refine WK.cZ ok 1000 0 [(54,aj true),(55,RV.aN (aI (5)) 0),(102,aj false),(104,dH w),(106,aj false),(110,aj true)] [] [2,5,6,7,12,13,14,15,51,52,53,115] [decide (0≤(i:Int)∧(i:Int) < (fs.length:Int)),true,true,true,true,true,decide (List.length r≤1000000),(List.length w).ble 1000000000,true,true,true] [(aj (decide ((i:Int) < (fs.length:Int))),aj true),(RV.aN (fs.getD (i:Int).toNat DV.aG) 0,RV.aN (aI (5)) 0),(aj !m,aj false),(dH (Go.aQ.nT m r),dH w),(aj (w==[]),aj false),(aj !Go.Lib.trimS w [(43:UInt8),(45:UInt8)]==[],aj true)] rfl (by kernel_rfl:aJ (bq qV) 1000 0 _ _ _ _ (iR r m e (jX kd nd n a x tx (.d (.aF 0 [] true))) fs (i:Int))=some (av mZ 2,za (dh m r) (cK m r) (kS (uL m e) 6) kd nd n a x tx fs (i:Int) w,_,_)) (by refine ⟨?_,?_,?_,?_,?_,?_,?_,?_,?_,?_,?_,trivial⟩<;>(first | rfl | exact c1 | exact c3 | exact c4)) (by refine ⟨?_,?_,?_,?_,?_,?_,trivial⟩<;>(first | exact ah rfl | exact vf | exact ah (decide_eq_true (by omega)) | exact ah em | exact .of_eq (by rw [hw]) | exact ah (beq_false_of_ne h1) | exact ah ht)) ?_
   exact hn
def ze (r:W) (m:Bool) (e:Int) (ac:List RV):iU:={ n:=147,m:=0,regs:=T.mk [(2,.ptr 200 0),(5,.ptr 201 0),(6,.ptr 202 0),(7,.ptr 203 0),(12,.ptr 204 0),(13,.ptr 205 0),(14,.ptr 206 0),(15,.gG (.func 19) [] [.ptr 206 0,.ptr 205 0]),(51,.d (.aF 0 [] true)),(52,.d (.int .i64 0)),(53,.d (.int .i64 0))],objs:=T.mk [(200,.box aT M4),(201,.box sT [.d (.str r)]),(202,.box tT [.d (.bool m)]),(203,.box aT ac),(204,.box eT [.d (.int .i64 e)]),(205,.box MS [.gG (.func 17) [] [.ptr 204 0]]),(206,.box Rp [.gG (.func 18) [] [.ptr 202 0,.ptr 205 0,.ptr 201 0]])] }
abbrev XM:List DV:=[.int .i64 1,.int .i64 2,.int .i64 3]
theorem Je (s r:W) (m:Bool) (k:Int) (hr:r.length≤999999) (hq:dL s=aQ.stop { kind:=k,node:=kN m r } (cK m r) (lX m r 0)):oM s r m 0 k 0 0 0 0 [] [.int .i64 0] 0:=
 xJ s r m 0 k 0 0 0 0 [] [.int .i64 0] 0 (by omega) rfl hr (jY _ _ _ _ _ _ _ _ _ _ _ _ rfl hq)
theorem zf (s r:W) (m:Bool) (k:Int) (hr:r.length≤999999) (hq:dL s=aQ.stop { kind:=k,n:=kN m r } (cK m r) (lX m r 0)):oM s r m 0 k 0 0 0 0 [] [.int .i64 1] 0:=
 Dq s r m 0 k 0 0 0 0 [] [.int .i64 1] 0 (by omega) rfl hr (jY _ _ _ _ _ _ _ _ _ _ _ _ rfl hq)
theorem kd8 (s r:W) (m:Bool) (hr:r.length≤999999) (hq:dL s=Bg 8 m r):oM s r m 0 8 0 0 0 0 [] [.int .i64 0,.int .i64 1] 0:=by
 have h1:=oD m r;exact xJ s r m 0 8 0 0 0 0 [] [.int .i64 0,.int .i64 1] 0 (by omega) rfl hr (Dq _ _ _ _ _ _ _ _ _ _ _ 1 (by omega) rfl (by omega) (jY _ _ _ _ _ _ _ _ _ _ _ _ rfl hq))
theorem kd6 (s r:W) (m:Bool) (hr:r.length≤999999) (hq:dL s=Bg 6 m r):oM s r m 0 6 0 0 0 0 [] XM 0:=by
 have h1:=oD m r;have h2:=oD (cK m r) (dh m r);refine Dq s r m 0 6 0 0 0 0 [] XM 0 (by omega) rfl hr (M6 _ _ _ _ _ _ _ _ _ _ _ 1 (by omega) rfl (by omega) ?_);obtain ⟨q,e⟩:∃q,kN (cK (cK m r) (dh m r)) (dh (cK m r) (dh m r))=q:=⟨_,rfl⟩;have hq:dL s=aQ.stop { kind:=6,n:=kN m r,at_:=kN (cK m r) (dh m r),x:=kN (cK (cK m r) (dh m r)) (dh (cK m r) (dh m r)) % 256 } (cK (cK (cK m r) (dh m r)) (dh (cK m r) (dh m r))) (if kN (cK (cK m r) (dh m r)) (dh (cK m r) (dh m r)) < 0∨kN (cK (cK m r) (dh m r)) (dh (cK m r) (dh m r)) > 255 then kS (lX (cK (cK m r) (dh m r)) (dh (cK m r) (dh m r)) (lX (cK m r) (dh m r) (lX m r 0))) 5 else lX (cK (cK m r) (dh m r)) (dh (cK m r) (dh m r)) (lX (cK m r) (dh m r) (lX m r 0))):=hq;rw [e] at hq;have hx:IntKind.u8.wrap q=q % 256:=by rw [IntKind.wrap_u8]
 by_cases g1:q < 0
 ·rw [if_pos (.inl g1),←hx] at hq;exact M7 _ _ _ _ _ _ _ _ _ _ _ 2 (by omega) rfl (by omega) q e g1 (jY _ _ _ _ _ _ _ _ _ _ _ _ rfl hq)
 ·by_cases g2:255 < q
  ·rw [if_pos (.inr g2),←hx] at hq;exact M8 _ _ _ _ _ _ _ _ _ _ _ 2 (by omega) rfl (by omega) q e g1 g2 (jY _ _ _ _ _ _ _ _ _ _ _ _ rfl hq)
  ·rw [if_neg (by omega),←hx] at hq;exact M9 _ _ _ _ _ _ _ _ _ _ _ 2 (by omega) rfl (by omega) q e g1 g2 (jY _ _ _ _ _ _ _ _ _ _ _ _ rfl hq)
theorem kd7 (s r:W) (m:Bool) (hr:r.length≤999999) (hq:dL s=Bg 7 m r):oM s r m 0 7 0 0 0 0 [] [.int .i64 0,.int .i64 1,.int .i64 4] 0:=by
 have h1:=oD m r;have h2:=oD (cK m r) (dh m r);refine xJ s r m 0 7 0 0 0 0 [] [.int .i64 0,.int .i64 1,.int .i64 4] 0 (by omega) rfl hr (Dq _ _ _ _ _ _ _ _ _ _ _ 1 (by omega) rfl (by omega) ?_);obtain ⟨w,e⟩:∃w,nT (cK (cK m r) (dh m r)) (dh (cK m r) (dh m r))=w:=⟨_,rfl⟩
 have hq:dL s=match jd (nT (cK (cK m r) (dh m r)) (dh (cK m r) (dh m r))) with
  | some x=>aQ.stop { kind:=7,node:=kN m r,n:=kN (cK m r) (dh m r),x:=x } (cK (cK (cK m r) (dh m r)) (dh (cK m r) (dh m r))) (uL (cK (cK m r) (dh m r)) (lX (cK m r) (dh m r) (lX m r 0)))
  | none=>aQ.stop { kind:=7,node:=kN m r,n:=kN (cK m r) (dh m r) } (cK (cK (cK m r) (dh m r)) (dh (cK m r) (dh m r))) (kS (uL (cK (cK m r) (dh m r)) (lX (cK m r) (dh m r) (lX m r 0))) 6):=hq
 rw [e] at hq;by_cases g1:w=[105,111]
 ·have hw:jd w=some 1:=by unfold jd;rw [if_pos g1]
  rw [hw] at hq;exact Qa _ _ _ _ _ _ _ _ _ _ _ 2 (by omega) rfl (by omega) (e.trans g1) (jY _ _ _ _ _ _ _ _ _ _ _ _ rfl hq)
 ·by_cases g2:w=[115,112,97,99,101]
  ·have hw:jd w=some 0:=by unfold jd;rw [if_neg g1,if_pos g2]
   rw [hw] at hq;exact Qb _ _ _ _ _ _ _ _ _ _ _ 2 (by omega) rfl (by omega) (e.trans g2) (jY _ _ _ _ _ _ _ _ _ _ _ _ rfl hq)
  ·have hw:jd w=none:=by unfold jd;rw [if_neg g1,if_neg g2]
   rw [hw] at hq;exact Qc _ _ _ _ _ _ _ _ _ _ _ 2 (by omega) rfl (by omega) (by rw [e];exact g1) (by rw [e];exact g2) (jY _ _ _ _ _ _ _ _ _ _ _ _ rfl hq)
theorem kd9 (s r:W) (m:Bool) (hr:r.length≤999999) (hq:dL s=Bg 9 m r):oM s r m 0 9 0 0 0 0 [] [.int .i64 0,.int .i64 5] 0:=by
 have h1:=oD m r;refine xJ s r m 0 9 0 0 0 0 [] [.int .i64 0,.int .i64 5] 0 (by omega) rfl hr ?_;have hq:dL s=if cK m r=true then aQ.stop { kind:=9,node:=kN m r,keep:=dD (nT (cK m r) (dh m r)) } (cK (cK m r) (dh m r)) (if gM (nT (cK m r) (dh m r))=true then lX m r 0 else kS (lX m r 0) 6) else aQ.stop { kind:=9,node:=kN m r } (cK m r) (lX m r 0):=hq;cases hm:cK m r with
 | false=>
   rw [hm] at hq;exact Na _ _ _ _ _ _ _ _ _ _ _ 1 (by omega) rfl (by omega) rfl (jY _ _ _ _ _ _ _ _ _ _ _ _ rfl hq)
 | true=>
   rw [hm,if_pos rfl] at hq;refine Qe _ _ _ _ _ _ _ _ _ _ _ 1 (by omega) rfl (by omega) rfl _ rfl fun ks hks=>?_;refine Qd _ _ _ _ _ _ _ _ _ _ (dD (nT true (dh m r))) _ _ _ rfl hq fun h=>?_;refine ⟨hks h,?_⟩;intro h0;split at h
   ·rename_i hk;unfold gM at hk;rw [Bool.and_eq_true] at hk
    have:nT true (dh m r)=[]:=List.map_eq_nil_iff.1 h0
    rw [this] at hk;exact absurd hk.1 (by simp)
   ·exact J9 _ h
theorem kr:∀(r:W) (c:UInt8),0≤Lib.indexByte r c↔c∈r
 | [],c=>by simp [Lib.indexByte]
 | b::l,c=>by
   unfold Lib.indexByte;by_cases h:b=c
   ·subst h;simp
   ·rw [if_neg (by simpa using h)];have ih:=kr l c;by_cases h1:Lib.indexByte l c = -1
    ·rw [if_pos (by simp [h1])]
     have:¬c∈l:=fun hm=>by have:=ih.2 hm;omega
     simp [Ne.symm h,this]
    ·rw [if_neg (by simpa using h1)];have h2:-1≤Lib.indexByte l c:=Lib.indexByte_ge l c
     have:c∈l:=ih.1 (by omega)
     simp [this];omega
theorem kd1 (s r:W) (m:Bool) (hr:r.length≤999999) (hq:dL s=if m=false∨(10:UInt8)∈r then ({},6) else ({ kind:=1,text:=r },0)):oM s r m 0 1 0 0 0 0 [] [.int .i64 6] 0:=by
 cases hm:m with
 | false=>
   rw [if_pos (.inl hm)] at hq;exact Nb s r false 0 1 0 0 0 0 [] [.int .i64 6] 0 (by omega) rfl hr rfl (jY _ _ _ _ _ _ _ _ _ _ _ _ rfl hq)
 | true=>
   by_cases h:(10:UInt8)∈r
   ·rw [if_pos (.inr h)] at hq;exact Nc s r true 0 1 0 0 0 0 [] [.int .i64 6] 0 (by omega) rfl hr rfl ((kr r 10).2 h) (jY _ _ _ _ _ _ _ _ _ _ _ _ rfl hq)
   ·rw [if_neg (by simp [hm,h])] at hq;exact Nf s r true 0 1 0 0 0 0 [] [.int .i64 6] 0 (by omega) rfl hr rfl (fun g=>h ((kr r 10).1 g)) (jY _ _ _ _ _ _ _ _ _ _ _ _ rfl hq)
set_option maxHeartbeats 2000000 in
theorem Qf (s r:W) (m:Bool) (e kd:Int) (he:e=0) (hq:dL s=aQ.stop { kind:=kd } m e):WK Tryz.prog 0 (av mZ 1) (ze r m e (jX kd 0 0 0 0 [] (.d (.aF 0 [] true)))).den (gY s):=by
 have ok:=aH fF;cases hm:m with
 | true=>
   have hb:(kS e 6 != 0)=true:=bne_iff_ne.2 (J9 e);rw [hm,vJ] at hq;exact WK.fin ok 1000 0 [(54,aj false),(139,aj true),(143,aj true)] [true] [(aj false,aj false),(aj true,aj true),(aj (Go.aQ.kS e (6) != 0),aj true)] rfl (by kernel_rfl:au (bq qV) true _ 1000 0 _ _ (ze r true e (jX kd 0 0 0 0 [] (.d (.aF 0 [] true))))=some (RV.aZ [RV.d (DV.agg [aI (0),aI (0),aI (0),aI (0),aU (0),DV.str [],DV.aF 0 [] true]),aA (Go.aQ.kS e (6))],[],_,_)) ⟨(by rfl),trivial⟩ (by refine ⟨?_,?_,?_,trivial⟩<;>(first | exact ah rfl | exact ah hb)) ⟨by rw [hq];rfl,rfl⟩
 | false=>
   have hb:(e != 0)=false:=by rw [he];rfl
   rw [hm,he,xG] at hq;exact WK.fin ok 1000 0 [(54,aj false),(139,aj false),(143,aj false)] [] [(aj false,aj false),(aj false,aj false),(aj (e != 0),aj false)] rfl (by kernel_rfl:au (bq qV) true _ 1000 0 _ _ (ze r false e (jX kd 0 0 0 0 [] (.d (.aF 0 [] true))))=some (RV.aZ [RV.d (DV.agg [aI kd,aI 0,aI 0,aI 0,aU 0,DV.str [],DV.aF 0 [] true]),aA (0)],[],_,_)) trivial (by refine ⟨?_,?_,?_,trivial⟩<;>(first | exact ah rfl | exact ah hb)) ⟨by rw [hq];rfl,rfl⟩
theorem Rq (s r:W) (m:Bool) (kd:Int) (hq:dL s=aQ.stop { kind:=kd } m 0):WK Tryz.prog 0 (av mZ 1) (ze r m 0 (jX kd 0 0 0 0 [] (.d (.aF 0 [] true)))).den (gY s):=Qf s r m 0 kd rfl hq
set_option maxHeartbeats 2000000 in
theorem Nh (s f r:W) (m:Bool) (kd:Int) (fs:List DV) (hk:kd≠0) (hn:oM s r m 0 kd 0 0 0 0 [] fs 0):WK Tryz.prog 0 (av mZ 0) (oF f r m kd (.aF 1 fs false) (15:Nat)).den (gY s):=by
 have ok:=aH fF;have hb:(kd==0)=false:=beq_false_of_ne hk;refine WK.cZ ok 1000 0 [(30,aj false),(46,aj false)] [] [2,5,6,7,12,13,14,15,51,52,53] [] [(aj false,aj false),(aj (kd==0),aj false)] rfl (by kernel_rfl:aJ (bq qV) 1000 0 _ _ _ _ (oF f r m kd (.aF 1 fs false) (15:Nat))=some (av mZ 1,iR r m 0 (jX kd 0 0 0 0 [] (.d (.aF 0 [] true))) fs (0:Nat),_,_)) trivial (by refine ⟨?_,?_,trivial⟩<;>(first | exact ah rfl | exact ah hb)) ?_
 exact hn
theorem kU (s f r:W) (m:Bool) (k:Nat) (fs:List DV) (hk:k≠0) (hn:oM s r m 0 (k:Int) 0 0 0 0 [] fs 0):WK Tryz.prog 0 (av mZ 0) (oF f r m (k:Int) (.aF 1 fs false) (15:Nat)).den (gY s):=
 Nh s f r m (k:Int) fs (by omega) hn
set_option maxHeartbeats 2000000 in
theorem Ka (s f r:W) (m:Bool) (kd:Int) (hk:kd≠0) (hn:WK Tryz.prog 0 (av mZ 1) (ze r m 0 (jX kd 0 0 0 0 [] (.d (.aF 0 [] true)))).den (gY s)):WK Tryz.prog 0 (av mZ 0) (oF f r m kd (.aF 0 [] true) (15:Nat)).den (gY s):=by
 have ok:=aH fF;have hb:(kd==0)=false:=beq_false_of_ne hk;refine WK.cZ ok 1000 0 [(30,aj false),(46,aj false)] [] [2,5,6,7,12,13,14,15,51,52,53] [] [(aj false,aj false),(aj (kd==0),aj false)] rfl (by kernel_rfl:aJ (bq qV) 1000 0 _ _ _ _ (oF f r m kd (.aF 0 [] true) (15:Nat))=some (av mZ 1,ze r m 0 (jX kd 0 0 0 0 [] (.d (.aF 0 [] true))),_,_)) trivial (by refine ⟨?_,?_,trivial⟩<;>(first | exact ah rfl | exact ah hb)) ?_
 exact hn
theorem Jf (s f r:W) (m:Bool) (k:Nat) (hk:k≠0) (hn:WK Tryz.prog 0 (av mZ 1) (ze r m 0 (jX k 0 0 0 0 [] (.d (.aF 0 [] true)))).den (gY s)):WK Tryz.prog 0 (av mZ 0) (oF f r m (k:Int) (.aF 0 [] true) (15:Nat)).den (gY s):=
 Ka s f r m (k:Int) (by omega) hn
set_option maxHeartbeats 2000000 in
theorem Qg (s f r:W) (m:Bool) (fd:DV) (hq:dL s=({},6)):WK Tryz.prog 0 (av mZ 0) (oF f r m (0:Nat) fd (15:Nat)).den (gY s):=by
 have ok:=aH fF;exact WK.fin ok 1000 0 [(30,aj false),(46,aj true)] [] [(aj false,aj false),(aj ((0:Int)==0),aj true)] rfl (by kernel_rfl:au (bq qV) true _ 1000 0 _ _ (oF f r m (0:Nat) fd (15:Nat))=some (RV.aZ [RV.d (DV.agg [aI (0),aI (0),aI (0),aI (0),aU (0),DV.str [],DV.aF 0 [] true]),aA (6)],[],_,_)) trivial (by refine ⟨?_,?_,trivial⟩<;>(exact ah rfl)) ⟨by rw [hq];rfl,rfl⟩
theorem Qh {s:W} {k:Nat} (h:kindOf (aQ.cut s).1=k+2):dL s=Bg (k+2) (aQ.cut s).2.2 (aQ.cut s).2.1:=by
 unfold dL;rw [h];rfl
theorem Tz (s f r:W) (m:Bool) (hf:(aQ.cut s).1=f) (hr' : (aQ.cut s).2.1=r) (hm' : (aQ.cut s).2.2=m) (hr:r.length≤999999):WK Tryz.prog 0 (av mZ 0) (oF f r m (kindOf f:Nat) (PZ (kindOf f)) (15:Nat)).den (gY s):=by
 have hle:=nQ f;have hP:∀k,kindOf f=k+2→dL s=Bg (k+2) m r:=fun k h=>by rw [Qh (k:=k) (by rw [hf];exact h),hr',hm']
 have h0:kindOf f=0→dL s=({},6):=fun h=>by unfold dL;rw [hf,h];rfl
 have h1:kindOf f=1→dL s=if m=false∨(10:UInt8)∈r then ({},6) else ({ kind:=1,text:=r },0):=fun h=>by unfold dL;rw [hf,h,hr',hm'];rfl
 generalize kindOf f=k at *
 match k,hle with
 | 0,_=>exact Qg s f r m _ (h0 rfl)
 | 1,_=>exact kU s f r m 1 _ (by decide) (kd1 s r m hr (h1 rfl))
 | 2,_=>exact kU s f r m 2 _ (by decide) (Je s r m 2 hr (hP 0 rfl))
 | 3,_=>exact kU s f r m 3 _ (by decide) (zf s r m 3 hr (hP 1 rfl))
 | 4,_=>exact kU s f r m 4 _ (by decide) (zf s r m 4 hr (hP 2 rfl))
 | 5,_=>exact kU s f r m 5 _ (by decide) (zf s r m 5 hr (hP 3 rfl))
 | 6,_=>exact kU s f r m 6 _ (by decide) (kd6 s r m hr (hP 4 rfl))
 | 7,_=>exact kU s f r m 7 _ (by decide) (kd7 s r m hr (hP 5 rfl))
 | 8,_=>exact kU s f r m 8 _ (by decide) (kd8 s r m hr (hP 6 rfl))
 | 9,_=>exact kU s f r m 9 _ (by decide) (kd9 s r m hr (hP 7 rfl))
 | 10,_=>exact kU s f r m 10 _ (by decide) (Je s r m 10 hr (hP 8 rfl))
 | 11,_=>exact Jf s f r m 11 (by decide) (Rq s r m 11 (hP 9 rfl))
 | 12,_=>exact kU s f r m 12 _ (by decide) (zf s r m 12 hr (hP 10 rfl))
 | 13,_=>exact Jf s f r m 13 (by decide) (Rq s r m 13 (hP 11 rfl))
 | 14,_=>exact kU s f r m 14 _ (by decide) (zf s r m 14 hr (hP 12 rfl))
 | k+15,h=>omega
theorem Jg:∀k:Nat,k < 15→1≤k→kindOf (kw k)=k:=by decide +kernel
set_option maxHeartbeats 4000000 in
theorem Jh (s f r:W) (m:Bool) (kd:Int) (fd:DV) (i:Nat) (h1:1≤i∧i≤14) (b:Bool) (hb:(Te (Nat.cast (R:=Int) i)==f)=b)
 (hn:WK Tryz.prog 0 (av mZ 0) (oF f r m (if b then (i:Int) else kd) (if b then PZ i else fd) ((i+1:Nat):Int)).den (gY s)):WK Tryz.prog 0 (av mZ 0) (oF f r m kd fd (i:Int)).den (gY s):=by
 have ok:=aH fF;have c1:decide ((1:Int)≤(Nat.cast (R:=Int) i)∧(Nat.cast (R:=Int) i)≤14)=true:=decide_eq_true (by omega);have vs:=dB (i:=i) (by omega);cases b with
 | true=>
   simp only [if_true] at hn;refine WK.cZ ok 1000 0 [(30,aj true),(40,aj true),(32,aA ((i+1:Nat):Int))] [] [2,4,5,6,7,8,9] [decide (1≤(i:Int)∧(i:Int)≤14)] [(aj (decide ((i:Int)≤14)),aj true),(aj (Go.Proofs.YtjoefbioobdinaaGreatDoor.Te (i:Int)==f),aj true),(aA (IntKind.i64.wrap ((i:Int)+1)),aA ((i+1:Nat):Int))] rfl (by kernel_rfl:aJ (bq qV) 1000 0 _ _ _ _ (oF f r m kd fd (i:Int))=some (av mZ 0,oF f r m (i:Int) (PZ i) ((i+1:Nat):Int),_,_)) ⟨(by first | rfl | exact c1),trivial⟩ (by refine ⟨?_,?_,?_,trivial⟩<;>(first | exact ah rfl | exact ah hb | exact vs | exact ah (decide_eq_true (by omega)))) ?_
   exact hn
 | false=>
   simp only [Bool.false_eq_true,if_false] at hn;refine WK.cZ ok 1000 0 [(30,aj true),(40,aj false),(32,aA ((i+1:Nat):Int))] [] [2,4,5,6,7,8,9] [decide (1≤(i:Int)∧(i:Int)≤14)] [(aj (decide ((i:Int)≤14)),aj true),(aj (Go.Proofs.YtjoefbioobdinaaGreatDoor.Te (i:Int)==f),aj false),(aA (IntKind.i64.wrap ((i:Int)+1)),aA ((i+1:Nat):Int))] rfl (by kernel_rfl:aJ (bq qV) 1000 0 _ _ _ _ (oF f r m kd fd (i:Int))=some (av mZ 0,oF f r m kd fd ((i+1:Nat):Int),_,_)) ⟨(by first | rfl | exact c1),trivial⟩ (by refine ⟨?_,?_,?_,trivial⟩<;>(first | exact ah rfl | exact ah hb | exact vs | exact ah (decide_eq_true (by omega)))) ?_
   exact hn
def upTo (K k:Nat):Nat:=if K < k then K else 0
set_option maxHeartbeats 4000000 in
theorem Qi (s f r:W) (m:Bool) (hf:(aQ.cut s).1=f) (hr' : (aQ.cut s).2.1=r) (hm' : (aQ.cut s).2.2=m) (hr:r.length≤999999):WK Tryz.prog 0 (av mZ 0) (oF f r m (0:Nat) (PZ 0) (1:Nat)).den (gY s):=by
 have ok:=aH fF;have e0:upTo (kindOf f) 1=0:=by unfold upTo;split<;>omega
 suffices h:WK Tryz.prog 0 (av mZ 0) (oF f r m (upTo (kindOf f) 1:Nat) (PZ (upTo (kindOf f) 1)) (1:Nat)).den (gY s) by
  rw [e0] at h;exact h
 refine WK.rec' (fun k:Nat=>oF f r m (upTo (kindOf f) k:Nat) (PZ (upTo (kindOf f) k)) (k:Int)) (fun k=>1≤k∧k≤15) (fun k=>15-k) ?_ 1 ⟨by omega,by omega⟩
 ·rintro k ⟨h1,h2⟩ ih
  have hle:=nQ f;by_cases h15:k=15
  ·have hn:=Tz s f r m hf hr' hm' hr;have e:upTo (kindOf f) k=kindOf f:=by unfold upTo;rw [if_pos (by omega)]
   rw [e,h15];exact hn
  ·have hn:=ih (k+1) ⟨by omega,by omega⟩ (by omega);by_cases hk:kindOf f=k
   ·have e1:upTo (kindOf f) (k+1)=k:=by unfold upTo;rw [if_pos (by omega),hk]
    have e2:Te (Nat.cast (R:=Int) k)=f:=(qI hk (by omega)).symm;have hb:(Te (Nat.cast (R:=Int) k)==f)=true:=by rw [e2];simp
    rw [e1] at hn;exact Jh s f r m _ _ k ⟨h1,by omega⟩ true hb hn
   ·have e1:upTo (kindOf f) (k+1)=upTo (kindOf f) k:=by
     unfold upTo;by_cases g:kindOf f < k
     ·rw [if_pos g,if_pos (by omega)]
     ·rw [if_neg g,if_neg (by omega)]
    have hb:(Te (Nat.cast (R:=Int) k)==f)=false:=beq_false_of_ne fun h=>hk (by
     have h:kw k=f:=h;rw [←h];exact Jg k (by omega) h1)
    rw [e1] at hn;exact Jh s f r m _ _ k ⟨h1,by omega⟩ false hb hn
set_option maxHeartbeats 2000000 in
theorem rd_c (s:W) (hs:s.length≤999999):Go.Am.C Tryz.prog 7 [.d (.str s)] [] (fun q o=>q=OI (dL s)∧o=[]):=by
 have ok:=aH fF;refine bn (fn:=Tryz.f7) (body:=mZ) true (by kernel_rfl) (by kernel_rfl) (by kernel_rfl) ?_;obtain ⟨f,hf⟩:∃f,(aQ.cut s).1=f:=⟨_,rfl⟩;obtain ⟨r,hr⟩:∃r,(aQ.cut s).2.1=r:=⟨_,rfl⟩;obtain ⟨m,hm⟩:∃m,(aQ.cut s).2.2=m:=⟨_,rfl⟩;have hl:r.length≤999999:=by rw [←hr];have:=(xI s).2;omega
 have c1:decide (s.length≤1000000)=true:=decide_eq_true (by omega);have hn:=Qi s f r m hf hr hm hl;refine WK.cZ ok 1000 0 [(25,dH f),(26,dH r),(27,aj m)] [] [2,4,5,6,7,8,9] [decide (List.length s≤1000000)] [(dH (Go.aQ.cut s).1,dH f),(dH (Go.aQ.cut s).snd.1,dH r),(aj (Go.aQ.cut s).snd.2,aj m)] rfl (by kernel_rfl:aJ (bq qV) 1000 0 _ _ _ _ (dz 147 [.d (.str s)] [])=some (av mZ 0,oF f r m (0:Nat) (PZ 0) (1:Nat),_,_)) ⟨(by first | rfl | exact c1),trivial⟩ (by refine ⟨?_,?_,?_,trivial⟩<;>(first | exact ah rfl | exact .of_eq (by rw [hf]) | exact .of_eq (by rw [hr]) | exact .of_eq (by rw [hm]))) ?_
 exact hn
def rdE:DV→Option (RV×List Bool)
 | .str s=>some (OI (dL s),[decide (s.length≤999999)])
 | _=>none
theorem TA:bY Tryz.prog 7 (wK rdE):=by
 refine kR fun x y c hg hc=>?_;unfold rdE at hg;split at hg
 ·rename_i s;simp only [Option.some.injEq,Prod.mk.injEq] at hg;obtain ⟨rfl,rfl⟩:=hg;exact rd_c s (of_decide_eq_true (hc _ (by simp:decide (s.length≤999999)∈[decide (s.length≤999999)])))
 ·cases hg
end Go.Proofs.YtjoefbioobdinaaGreatDoor
namespace Go.aQ
open Go.Lib
theorem Ni:∀(l:W) (a:Nat),l.all fK=true→val a l < (a+1)*10 ^ l.length
 | [],a,_=>by show a < (a+1)*10 ^ 0;omega
 | c::r,a,h=>by
   simp only [List.all_cons,Bool.and_eq_true,kE] at h;have h1:=Ni r (10*a+(c.toNat-48)) h.2;have e:val a (c::r)=val (10*a+(c.toNat-48)) r:=rfl;rw [e,List.length_cons,Nat.pow_succ];have h2:(10*a+(c.toNat-48)+1)*10 ^ r.length≤(10*a+10)*10 ^ r.length:=Nat.mul_le_mul_right _ (by omega)
   have h3:(10*a+10)*10 ^ r.length=(a+1)*(10 ^ r.length*10):=by
    rw [show 10*a+10=(a+1)*10 by omega,Nat.mul_assoc,Nat.mul_comm 10]
   omega
theorem Nj {d:W} {i:Nat} {c:UInt8} (h:d[i]? = some c):val 0 (d.take (i+1))=10*val 0 (d.take i)+(c.toNat-48):=by
 rw [List.take_add_one,h,Option.toList_some,xD];rfl
theorem Bu {d:W} {i:Nat} (h:(d.take i).all fK=true) (hi:i≤19):val 0 (d.take i) < 10000000000000000000:=by
 have h1:=Ni (d.take i) 0 h;have h2:10 ^ (d.take i).length≤10 ^ 19:=Nat.pow_le_pow_right (by decide) (by rw [List.length_take];omega);have h3:(10:Nat) ^ 19=10000000000000000000:=by decide
 omega
theorem Fg {d:W} {i:Nat} {c:UInt8} (h:d[i]? = some c) (ha:(d.take i).all fK=true) (hc:fK c=true):(d.take (i+1)).all fK=true:=by
 rw [List.take_add_one,h,Option.toList_some,List.all_append,ha];simp [hc]
theorem Ji {d:W} {i:Nat} {c:UInt8} (h:d[i]? = some c) (hc:fK c=false):d.all fK=false:=by
 rw [List.all_eq_false];exact ⟨c,List.mem_of_getElem? h,by simp [hc]⟩
end Go.aQ
namespace Go.Proofs.YtjoefbioobdinaaGreatDoor
open Go.RowKit Am
open Go.aQ hiding cut intOf take split
set_option maxRecDepth 100000
set_option linter.unusedVariables false
set_option linter.unusedSimpArgs false
abbrev vT:Nat:=74
noncomputable abbrev dgC:Code:=eG Tryz.f85
noncomputable abbrev Rt:Code:=eG Tryz.f87
noncomputable abbrev tdC:Code:=eG Tryz.f86
noncomputable abbrev Bv:Code:=eG Tryz.f47
def KE (c:Int):Int:=match lW c.toNat.toUInt8 with
 | some k=>(k:Int)
 | none=>-1
def dgE:DV→Option (DV×List Bool)
 | .int .u8 c=>some (.int .i64 (KE c),[decide (0≤c∧c≤255)])
 | _=>none
def GU (k n:Int) (s:W):VR:=if s.length≤1000 then (k,n,s,0) else (0,0,[],3)
def tdE:DV→Option (RV×List Bool)
 | .agg [.int .u8 k,.int .i64 n,.str s]=>some (SY (GU k n s),[])
 | _=>none
def iw (s:W):Int×Bool:=
 if mag s=[]∨19 < (mag s).length∨((mag s).head? = some 48∧1 < s.length) then (0,false)
 else if (mag s).all aQ.fK=true then
  (if s.head? = some 45 then (IntKind.i64.wrap (IntKind.u64.wrap (0-(val 0 (mag s):Int))),decide ((val 0 (mag s):Int)≤9223372036854775808)) else (IntKind.i64.wrap (val 0 (mag s):Int),decide ((val 0 (mag s):Int) < 9223372036854775808)))
 else (0,false)
def TB:DV→Option (RV×List Bool)
 | .str s=>some (.aZ [.d (.int .i64 (iw s).1),.d (.bool (iw s).2)],[decide (s.length≤1000000)])
 | _=>none
noncomputable def sQ:List (Nat×kZ):=[(85,e1 dgE),(86,wK tdE),(87,wK TB)]
def Nk (d:W) (neg:Bool) (n:Int) (i:Nat):iU:={ n:=72,m:=0,regs:=T.mk [(4,.d (.bool neg)),(5,.d (.str d)),(6,.d (.int .u64 n)),(7,.d (.int .i64 (i:Int)))],objs:=T.mk [] }
def Ru (s:W) (out:List DV) (i:Int):iU:={ n:=144,m:=0,regs:=T.mk [(0,.d (.str s)),(2,.ptr 200 0),(4,.own 201 1),(5,.d (.int .i64 i))],objs:=T.mk [(200,.box vT [.d (.int .u8 0),.d (.int .i64 0),.d (.str [])]),(201,.arr bT 1 out)] }
def Nl (s:W) (out:List DV) (i:Int):iU:={ n:=144,m:=0,regs:=T.mk [(0,.d (.str s)),(2,.ptr 200 0),(8,.own 201 1),(9,.d (.int .i64 i))],objs:=T.mk [(200,.box vT [.d (.int .u8 0),.d (.int .i64 0),.d (.str [])]),(201,.arr bT 1 out)] }
theorem GV (c:UInt8):KE (c.toNat:Int)=match lW c with
 | some k=>(k:Int)
 | none=>-1:=by
 unfold KE;rw [Int.toNat_natCast,show c.toNat.toUInt8=c from UInt8.ofNat_toNat ..]
theorem TD {c:UInt8} (h:48≤c.toNat∧c.toNat≤57):lW c=some (c.toNat-48):=by unfold lW;rw [if_pos h]
theorem TF {c:UInt8} (h:97≤c.toNat∧c.toNat≤102):lW c=some (c.toNat-87):=by unfold lW;rw [if_neg (by omega),if_pos h]
theorem GX {c:UInt8} (h1:¬(48≤c.toNat∧c.toNat≤57)) (h2:¬(97≤c.toNat∧c.toNat≤102)):lW c=none:=by unfold lW;rw [if_neg h1,if_neg h2]
theorem aai (c:UInt8):Go.Am.C Tryz.prog 85 [.d (.int .u8 (c.toNat:Int))] [] (fun r o=>r = .d (.int .i64 (KE (c.toNat:Int)))∧o=[]):=by
 have ok:=aH (l:=[]) .nil;have hlt:=UInt8.toNat_lt c;refine bn (fn:=Tryz.f85) (body:=dgC) true (by kernel_rfl) (by kernel_rfl) (by kernel_rfl) ?_;rw [GV];by_cases h1:48≤c.toNat
 ·by_cases h2:c.toNat≤57
  ·rw [TD ⟨h1,h2⟩];have hv:IntKind.u8.wrap ((Nat.cast (R:=Int) c.toNat)-48)=((c.toNat-48:Nat):Int):=by rw [IntKind.wrap_u8];omega
   exact WK.fin ok 1000 0 [(4,aj true),(7,aj true)] [] [(aj (decide (48≤(c.toNat:Int))),aj true),(aj (decide ((c.toNat:Int)≤57)),aj true)] rfl (by kernel_rfl:au (bq []) true _ 1000 0 _ _ (dz 22 [.d (.int .u8 (c.toNat:Int))] [])=some (aA (IntKind.i64.wrap (IntKind.u8.wrap ((c.toNat:Int)-48))),[],_,_)) trivial (by refine ⟨?_,?_,trivial⟩<;>(first | exact ah rfl | exact ah (decide_eq_true (by omega)))) ⟨by rw [hv,bC _ (by omega)],rfl⟩
  ·by_cases h3:97≤c.toNat
   ·by_cases h4:c.toNat≤102
    ·rw [TF ⟨h3,h4⟩];have hv:IntKind.u8.wrap ((Nat.cast (R:=Int) c.toNat)-97)=((c.toNat-97:Nat):Int):=by rw [IntKind.wrap_u8];omega
     have hw:IntKind.i64.wrap (((c.toNat-97:Nat):Int)+10)=((c.toNat-87:Nat):Int):=by rw [bC _ (by omega)];omega
     exact WK.fin ok 1000 0 [(4,aj true),(7,aj false),(13,aj true),(16,aj true)] [] [(aj (decide (48≤(c.toNat:Int))),aj true),(aj (decide ((c.toNat:Int)≤57)),aj false),(aj (decide (97≤(c.toNat:Int))),aj true),(aj (decide ((c.toNat:Int)≤102)),aj true)] rfl (by kernel_rfl:au (bq []) true _ 1000 0 _ _ (dz 22 [.d (.int .u8 (c.toNat:Int))] [])=some (aA (IntKind.i64.wrap (IntKind.i64.wrap (IntKind.u8.wrap ((c.toNat:Int)-97))+10)),[],_,_)) trivial (by refine ⟨?_,?_,?_,?_,trivial⟩<;>(first | exact ah rfl | exact ah (decide_eq_true (by omega)) | exact ah (decide_eq_false (by omega)))) ⟨by rw [hv,bC (((c.toNat-97:Nat):Int)) (by omega),hw],rfl⟩
    ·rw [GX (by omega) (by omega)];exact WK.fin ok 1000 0 [(4,aj true),(7,aj false),(13,aj true),(16,aj false)] [] [(aj (decide (48≤(c.toNat:Int))),aj true),(aj (decide ((c.toNat:Int)≤57)),aj false),(aj (decide (97≤(c.toNat:Int))),aj true),(aj (decide ((c.toNat:Int)≤102)),aj false)] rfl (by kernel_rfl:au (bq []) true _ 1000 0 _ _ (dz 22 [.d (.int .u8 (c.toNat:Int))] [])=some (aA (-1),[],_,_)) trivial (by refine ⟨?_,?_,?_,?_,trivial⟩<;>(first | exact ah rfl | exact ah (decide_eq_true (by omega)) | exact ah (decide_eq_false (by omega)))) ⟨rfl,rfl⟩
   ·rw [GX (by omega) (by omega)];exact WK.fin ok 1000 0 [(4,aj true),(7,aj false),(13,aj false)] [] [(aj (decide (48≤(c.toNat:Int))),aj true),(aj (decide ((c.toNat:Int)≤57)),aj false),(aj (decide (97≤(c.toNat:Int))),aj false)] rfl (by kernel_rfl:au (bq []) true _ 1000 0 _ _ (dz 22 [.d (.int .u8 (c.toNat:Int))] [])=some (aA (-1),[],_,_)) trivial (by refine ⟨?_,?_,?_,trivial⟩<;>(first | exact ah rfl | exact ah (decide_eq_true (by omega)) | exact ah (decide_eq_false (by omega)))) ⟨rfl,rfl⟩
 ·rw [GX (by omega) (by omega)];exact WK.fin ok 1000 0 [(4,aj false),(13,aj false)] [] [(aj (decide (48≤(c.toNat:Int))),aj false),(aj (decide (97≤(c.toNat:Int))),aj false)] rfl (by kernel_rfl:au (bq []) true _ 1000 0 _ _ (dz 22 [.d (.int .u8 (c.toNat:Int))] [])=some (aA (-1),[],_,_)) trivial (by refine ⟨?_,?_,trivial⟩<;>(first | exact ah rfl | exact ah (decide_eq_true (by omega)) | exact ah (decide_eq_false (by omega)))) ⟨rfl,rfl⟩
theorem TG:bY Tryz.prog 85 (e1 dgE):=by
 refine II fun x y c hg hc=>?_;unfold dgE at hg;split at hg
 ·rename_i k;simp only [Option.some.injEq,Prod.mk.injEq] at hg;obtain ⟨rfl,rfl⟩:=hg;have h:=of_decide_eq_true (hc (decide (0≤k∧k≤255)) (by simp));obtain ⟨n,rfl⟩:=Int.eq_ofNat_of_zero_le h.1
  have e:((n:Nat):Int)=(((UInt8.ofNat n).toNat:Nat):Int):=by
   rw [aQ.lS (by omega)]
  rw [e];exact aai _
 ·cases hg
theorem aaj (k n:Int) (s:W):Go.Am.C Tryz.prog 86 [.d (.agg [.int .u8 k,.int .i64 n,.str s])] [] (fun r o=>r=SY (GU k n s)∧o=[]):=by
 have ok:=aH (l:=[]) .nil;refine bn (fn:=Tryz.f86) (body:=tdC) true (by kernel_rfl) (by kernel_rfl) (by kernel_rfl) ?_;by_cases h:s.length≤1000
 ·have hq:GU k n s=(k,n,s,0):=if_pos h;exact WK.fin ok 1000 0 [(7,aj false)] [] [(aj (decide (1000 < ((List.length s:Nat):Int))),aj false)] rfl (by kernel_rfl:au (bq []) true _ 1000 0 _ _ (dz 10 [.d (.agg [.int .u8 k,.int .i64 n,.str s])] [])=some (RV.aZ [RV.d (DV.agg [aU k,aI n,DV.str s]),aA (0)],[],_,_)) trivial ⟨(by first | exact ah rfl | exact ah (decide_eq_false (by omega))),trivial⟩ ⟨by rw [hq];rfl,rfl⟩
 ·have hq:GU k n s=(0,0,[],3):=if_neg h;exact WK.fin ok 1000 0 [(7,aj true)] [] [(aj (decide (1000 < ((List.length s:Nat):Int))),aj true)] rfl (by kernel_rfl:au (bq []) true _ 1000 0 _ _ (dz 10 [.d (.agg [.int .u8 k,.int .i64 n,.str s])] [])=some (RV.aZ [RV.d (DV.agg [aU (0),aI (0),DV.str []]),aA (3)],[],_,_)) trivial ⟨(by first | exact ah rfl | exact ah (decide_eq_true (by omega))),trivial⟩ ⟨by rw [hq];rfl,rfl⟩
theorem TH:bY Tryz.prog 86 (wK tdE):=by
 refine kR fun x y c hg hc=>?_;unfold tdE at hg;split at hg
 ·simp only [Option.some.injEq,Prod.mk.injEq] at hg;obtain ⟨rfl,rfl⟩:=hg;exact aaj _ _ _
 ·cases hg
abbrev GY (s:W):bQ→Prop:=rR (Tryz.f87.results.toList) 0 (fun r o=>r = .aZ [.d (.int .i64 (iw s).1),.d (.bool (iw s).2)]∧o=[])
theorem vK {s:W} (h:mag s=[]∨19 < (mag s).length∨((mag s).head? = some 48∧1 < s.length)):iw s=(0,false):=by unfold iw;rw [if_pos h]
set_option maxHeartbeats 4000000 in
theorem Dr (s d:W) (neg:Bool) (hd:d.length≤19)
 (hno:d.all aQ.fK=false→iw s=(0,false))
 (hyes:d.all aQ.fK=true→iw s=if neg=true then (IntKind.i64.wrap (IntKind.u64.wrap (0-(val 0 d:Int))),decide ((val 0 d:Int)≤9223372036854775808)) else (IntKind.i64.wrap (val 0 d:Int),decide ((val 0 d:Int) < 9223372036854775808))) :
 WK Tryz.prog 0 (av Rt 0) (Nk d neg ((val 0 (d.take 0):Nat):Int) 0).den (GY s):=by
 have ok:=aH (l:=[]) .nil;refine WK.rec' (fun i:Nat=>Nk d neg ((val 0 (d.take i):Nat):Int) i) (fun i=>i≤d.length∧(d.take i).all aQ.fK=true) (fun i=>d.length-i) ?_ 0 ⟨by omega,by simp⟩
 rintro i ⟨hi,ha⟩ ih
 by_cases he:i < d.length
 ·obtain ⟨c,hc⟩:∃c,d[i]? = some c:=⟨_,List.getElem?_eq_getElem he⟩;have v1:=lg hc;have c1:=uq he;have hlt:=UInt8.toNat_lt c;by_cases g1:c.toNat < 48
  ·have hq:=hno (Ji hc (by simp [aQ.fK];omega));obtain ⟨n,hn⟩:∃n:Int,((val 0 (d.take i):Nat):Int)=n:=⟨_,rfl⟩;rw [hn];exact WK.fin ok 1000 0 [(41,aj true),(46,bK (c.toNat:Int)),(47,aj true)] [decide (0≤(i:Int)∧(i:Int) < ((List.length d:Nat):Int))] [(aj (decide ((i:Int) < ((List.length d:Nat):Int))),aj true),(bK ((List.getD d (i:Int).toNat (0:UInt8)).toNat:Int),bK (c.toNat:Int)),(aj (decide ((c.toNat:Int) < 48)),aj true)] rfl (by kernel_rfl:au (bq []) true _ 1000 0 _ _ (Nk d neg n i)=some (RV.aZ [aA (0),aj false],[],_,_)) ⟨(by first | rfl | exact c1),trivial⟩ (by refine ⟨?_,?_,?_,trivial⟩<;>(first | exact ah rfl | exact v1 | exact ah (decide_eq_true (by omega)))) ⟨by rw [hq],rfl⟩
  ·by_cases g2:57 < c.toNat
   ·have hq:=hno (Ji hc (by simp [aQ.fK];omega));obtain ⟨n,hn⟩:∃n:Int,((val 0 (d.take i):Nat):Int)=n:=⟨_,rfl⟩;rw [hn];exact WK.fin ok 1000 0 [(41,aj true),(46,bK (c.toNat:Int)),(47,aj false),(51,bK (c.toNat:Int)),(52,aj true)] [decide (0≤(i:Int)∧(i:Int) < ((List.length d:Nat):Int)),decide (0≤(i:Int)∧(i:Int) < ((List.length d:Nat):Int))] [(aj (decide ((i:Int) < ((List.length d:Nat):Int))),aj true),(bK ((List.getD d (i:Int).toNat (0:UInt8)).toNat:Int),bK (c.toNat:Int)),(aj (decide ((c.toNat:Int) < 48)),aj false),(bK ((List.getD d (i:Int).toNat (0:UInt8)).toNat:Int),bK (c.toNat:Int)),(aj (decide (57 < (c.toNat:Int))),aj true)] rfl (by kernel_rfl:au (bq []) true _ 1000 0 _ _ (Nk d neg n i)=some (RV.aZ [aA (0),aj false],[],_,_)) (by refine ⟨?_,?_,trivial⟩<;>(first | rfl | exact c1)) (by refine ⟨?_,?_,?_,?_,?_,trivial⟩<;>(first | exact ah rfl | exact v1 | exact ah (decide_eq_true (by omega)) | exact ah (decide_eq_false (by omega)))) ⟨by rw [hq],rfl⟩
   ·have hk:=ih (i+1) ⟨by omega,Fg hc ha (by simp [aQ.fK];omega)⟩ (by omega);have hb:=Bu (i:=i+1) (Fg hc ha (by simp [aQ.fK];omega)) (by omega);have e1:=Nj hc;obtain ⟨x,hx⟩:∃x:Int,((val 0 (d.take (i+1)):Nat):Int)=x:=⟨_,rfl⟩;obtain ⟨n,hn⟩:∃n:Int,((val 0 (d.take i):Nat):Int)=n:=⟨_,rfl⟩
    have hv2:IntKind.u64.wrap (IntKind.u64.wrap (10*n)+IntKind.u64.wrap (IntKind.u8.wrap ((Nat.cast (R:=Int) c.toNat)-48)))=x:=by
     rw [IntKind.wrap_u64,IntKind.wrap_u64,IntKind.wrap_u64,IntKind.wrap_u8];omega
    have vs:=dB (i:=i) (by omega);rw [hx] at hk;rw [hn];refine WK.cZ ok 1000 0 [(41,aj true),(46,bK (c.toNat:Int)),(47,aj false),(51,bK (c.toNat:Int)),(52,aj false),(58,bK (c.toNat:Int)),(61,RV.d (DV.int IntKind.u64 x)),(43,aA ((i+1:Nat):Int))] [] [4,5,6,7] [decide (0≤(i:Int)∧(i:Int) < ((List.length d:Nat):Int)),decide (0≤(i:Int)∧(i:Int) < ((List.length d:Nat):Int)),decide (0≤(i:Int)∧(i:Int) < ((List.length d:Nat):Int))] [(aj (decide ((i:Int) < ((List.length d:Nat):Int))),aj true),(bK ((List.getD d (i:Int).toNat (0:UInt8)).toNat:Int),bK (c.toNat:Int)),(aj (decide ((c.toNat:Int) < 48)),aj false),(bK ((List.getD d (i:Int).toNat (0:UInt8)).toNat:Int),bK (c.toNat:Int)),(aj (decide (57 < (c.toNat:Int))),aj false),(bK ((List.getD d (i:Int).toNat (0:UInt8)).toNat:Int),bK (c.toNat:Int)),(RV.d (DV.int IntKind.u64 (IntKind.u64.wrap (IntKind.u64.wrap (10*n)+IntKind.u64.wrap (IntKind.u8.wrap ((c.toNat:Int)-48))))),RV.d (DV.int IntKind.u64 x)),(aA (IntKind.i64.wrap ((i:Int)+1)),aA ((i+1:Nat):Int))] rfl (by kernel_rfl:aJ (bq []) 1000 0 _ _ _ _ (Nk d neg n i)=some (av Rt 0,Nk d neg x (i+1),_,_)) (by refine ⟨?_,?_,?_,trivial⟩<;>(first | rfl | exact c1)) (by refine ⟨?_,?_,?_,?_,?_,?_,?_,?_,trivial⟩<;>(first | exact ah rfl | exact v1 | exact vs | exact .of_eq (by rw [hv2]) | exact ah (decide_eq_true (by omega)) | exact ah (decide_eq_false (by omega)))) ?_
    exact hk
 ·have et:d.take i=d:=List.take_of_length_le (by omega);have hq:=hyes (by rw [←et];exact ha);have hb:=Bu ha (by omega);obtain ⟨n,hn⟩:∃n:Int,((val 0 (d.take i):Nat):Int)=n:=⟨_,rfl⟩;have hn0:0≤n:=by omega
  rw [et] at hn;rw [hn] at hq;rw [et,hn];cases neg with
  | true=>
    rw [if_pos rfl] at hq;obtain ⟨k,hk⟩:∃k,IntKind.i64.wrap (IntKind.u64.wrap (0-n))=k:=⟨_,rfl⟩;obtain ⟨q,hq2⟩:∃q,decide (n≤9223372036854775808)=q:=⟨_,rfl⟩;rw [hk,hq2] at hq;exact WK.fin ok 1000 0 [(41,aj false),(65,aA k),(67,aj q)] [] [(aj (decide ((i:Int) < ((List.length d:Nat):Int))),aj false),(aA (IntKind.i64.wrap (IntKind.u64.wrap (0-n))),aA k),(aj (decide (n≤9223372036854775808)),aj q)] rfl (by kernel_rfl:au (bq []) true _ 1000 0 _ _ (Nk d true n i)=some (RV.aZ [aA k,aj q],[],_,_)) trivial (by refine ⟨?_,?_,?_,trivial⟩<;>(first | exact ah rfl | exact ah hq2 | exact .of_eq (by rw [hk]) | exact ah (decide_eq_false (by omega)))) ⟨by rw [hq],rfl⟩
  | false=>
    rw [if_neg (by simp)] at hq;obtain ⟨k,hk⟩:∃k,IntKind.i64.wrap n=k:=⟨_,rfl⟩;obtain ⟨q,hq2⟩:∃q,decide (n < 9223372036854775808)=q:=⟨_,rfl⟩;rw [hk,hq2] at hq;exact WK.fin ok 1000 0 [(41,aj false),(69,aA k),(71,aj q)] [] [(aj (decide ((i:Int) < ((List.length d:Nat):Int))),aj false),(aA (IntKind.i64.wrap n),aA k),(aj (decide (n < 9223372036854775808)),aj q)] rfl (by kernel_rfl:au (bq []) true _ 1000 0 _ _ (Nk d false n i)=some (RV.aZ [aA k,aj q],[],_,_)) trivial (by refine ⟨?_,?_,?_,trivial⟩<;>(first | exact ah rfl | exact ah hq2 | exact .of_eq (by rw [hk]) | exact ah (decide_eq_false (by omega)))) ⟨by rw [hq],rfl⟩
theorem xK {a:UInt8} {k:Nat} (hk:k < 256) (h:a=UInt8.ofNat k):((Nat.cast (R:=Int) a.toNat)==(k:Int))=true:=by
 rw [h,aQ.lS hk];simp
theorem zA {a:UInt8} {k:Nat} (hk:k < 256) (h:a≠UInt8.ofNat k):((Nat.cast (R:=Int) a.toNat)==(k:Int))=false:=by
 refine beq_false_of_ne fun e=>h (UInt8.toNat_inj.1 ?_);rw [aQ.lS hk];omega
theorem GZ {s:W} (h:¬(mag s=[]∨19 < (mag s).length∨((mag s).head? = some 48∧1 < s.length))) (hd:(mag s).all aQ.fK=false):iw s=(0,false):=by
 unfold iw;rw [if_neg h,if_neg (by rw [hd];simp)]
theorem Dt {s:W} (h:¬(mag s=[]∨19 < (mag s).length∨((mag s).head? = some 48∧1 < s.length))) (hd:(mag s).all aQ.fK=true):iw s=if s.head? = some 45 then (IntKind.i64.wrap (IntKind.u64.wrap (0-(val 0 (mag s):Int))),decide ((val 0 (mag s):Int)≤9223372036854775808)) else (IntKind.i64.wrap (val 0 (mag s):Int),decide ((val 0 (mag s):Int) < 9223372036854775808)):=by
 unfold iw;rw [if_neg h,if_pos hd]
set_option maxHeartbeats 4000000 in
theorem TI (s d:W) (hs:s=45::d) (hl:s.length≤1000000):WK Tryz.prog 0 [.code Rt] (dz 72 [.d (.str s)] []).den (GY s):=by
 have ok:=aH (l:=[]) .nil;have hm:mag s=d:=by rw [hs];rfl
 have hh:s.head? = some 45:=by rw [hs];rfl
 have hlen:s.length=d.length+1:=by rw [hs];rfl
 have e1:((Nat.cast (R:=Int) (s.getD 0 0).toNat)==45)=true:=by rw [hs];rfl
 have e2:bM s (some 1) none=d:=by rw [hs];rfl
 have c0:decide ((0:Int)≤0∧0 < (Nat.cast (R:=Int) s.length))=true:=decide_eq_true (by omega);have c1:decide ((0:Int)≤1∧1≤(Nat.cast (R:=Int) s.length))=true:=decide_eq_true (by omega);cases d with
 | nil=>
   have hq:=vK (s:=s) (.inl hm);obtain ⟨d,hd⟩:∃d:W,[]=d:=⟨_,rfl⟩;have hd0:d.length=0:=by rw [←hd];rfl
   rw [hd] at e2;exact WK.fin ok 1000 0 [(10,aj true),(14,aj true),(19,dH d),(22,aj true)] [decide ((0:Int)≤0∧(0:Int) < ((List.length s:Nat):Int)),decide ((0:Int)≤1∧(1:Int)≤((List.length s:Nat):Int))] [(aj (decide (0 < ((List.length s:Nat):Int))),aj true),(aj (((List.getD s 0 (0:UInt8)).toNat:Int)==45),aj true),(dH (bM s (Option.some (1)) Option.none),dH d),(aj (decide (((List.length d:Nat):Int) < 1)),aj true)] rfl (by kernel_rfl:au (bq []) true _ 1000 0 _ _ (dz 72 [.d (.str s)] [])=some (RV.aZ [aA (0),aj false],[],_,_)) (by refine ⟨?_,?_,trivial⟩<;>(first | rfl | exact c0 | exact c1)) (by refine ⟨?_,?_,?_,?_,trivial⟩<;>(first | exact ah rfl | exact ah e1 | exact .of_eq (by rw [e2]) | exact ah (decide_eq_true (by omega)) | exact ah (decide_eq_false (by omega)))) ⟨by rw [hq],rfl⟩
 | cons c r=>
   have h0:(c::r).length=r.length+1:=rfl;have e3:(c::r).getD 0 0=c:=rfl;have eh:(c::r).head? = some c:=rfl;generalize c::r=d at *;have c2:decide ((0:Int)≤0∧0 < (Nat.cast (R:=Int) d.length))=true:=decide_eq_true (by omega);by_cases g1:19 < d.length
   ·have hq:=vK (s:=s) (.inr (.inl (by rw [hm];exact g1)));exact WK.fin ok 1000 0 [(10,aj true),(14,aj true),(19,dH d),(22,aj false),(26,aj true)] [decide ((0:Int)≤0∧(0:Int) < ((List.length s:Nat):Int)),decide ((0:Int)≤1∧(1:Int)≤((List.length s:Nat):Int))] [(aj (decide (0 < ((List.length s:Nat):Int))),aj true),(aj (((List.getD s 0 (0:UInt8)).toNat:Int)==45),aj true),(dH (bM s (Option.some (1)) Option.none),dH d),(aj (decide (((List.length d:Nat):Int) < 1)),aj false),(aj (decide (19 < ((List.length d:Nat):Int))),aj true)] rfl (by kernel_rfl:au (bq []) true _ 1000 0 _ _ (dz 72 [.d (.str s)] [])=some (RV.aZ [aA (0),aj false],[],_,_)) (by refine ⟨?_,?_,trivial⟩<;>(first | rfl | exact c0 | exact c1 | exact c2)) (by refine ⟨?_,?_,?_,?_,?_,trivial⟩<;>(first | exact ah rfl | exact ah e1 | exact .of_eq (by rw [e2]) | exact ah (decide_eq_true (by omega)) | exact ah (decide_eq_false (by omega)))) ⟨by rw [hq],rfl⟩
   ·by_cases g2:c=48
    ·have hq:=vK (s:=s) (.inr (.inr ⟨by rw [hm,eh,g2],by omega⟩));have e4:((Nat.cast (R:=Int) (d.getD 0 0).toNat)==48)=true:=by rw [e3];exact xK (k:=48) (by omega) g2
     exact WK.fin ok 1000 0 [(10,aj true),(14,aj true),(19,dH d),(22,aj false),(26,aj false),(31,aj true),(35,aj true)] [decide ((0:Int)≤0∧(0:Int) < ((List.length s:Nat):Int)),decide ((0:Int)≤1∧(1:Int)≤((List.length s:Nat):Int)),decide ((0:Int)≤0∧(0:Int) < ((List.length d:Nat):Int))] [(aj (decide (0 < ((List.length s:Nat):Int))),aj true),(aj (((List.getD s 0 (0:UInt8)).toNat:Int)==45),aj true),(dH (bM s (Option.some (1)) Option.none),dH d),(aj (decide (((List.length d:Nat):Int) < 1)),aj false),(aj (decide (19 < ((List.length d:Nat):Int))),aj false),(aj (((List.getD d 0 (0:UInt8)).toNat:Int)==48),aj true),(aj (decide (1 < ((List.length s:Nat):Int))),aj true)] rfl (by kernel_rfl:au (bq []) true _ 1000 0 _ _ (dz 72 [.d (.str s)] [])=some (RV.aZ [aA (0),aj false],[],_,_)) (by refine ⟨?_,?_,?_,trivial⟩<;>(first | rfl | exact c0 | exact c1 | exact c2)) (by refine ⟨?_,?_,?_,?_,?_,?_,?_,trivial⟩<;>(first | exact ah rfl | exact ah e1 | exact ah e4 | exact .of_eq (by rw [e2]) | exact ah (decide_eq_true (by omega)) | exact ah (decide_eq_false (by omega)))) ⟨by rw [hq],rfl⟩
    ·have hg:¬(mag s=[]∨19 < (mag s).length∨((mag s).head? = some 48∧1 < s.length)):=by
      rw [hm,eh]
      rintro (h | h | h)
      ·rw [h] at h0;simp at h0
      ·exact g1 h
      ·exact g2 (Option.some.inj h.1)
     have hk:=Dr s d true (by omega) (fun h=>GZ hg (by rw [hm];exact h)) (fun h=>by rw [Dt hg (by rw [hm];exact h),if_pos hh,hm];rfl);have e4:((Nat.cast (R:=Int) (d.getD 0 0).toNat)==48)=false:=by rw [e3];exact zA (k:=48) (by omega) g2
     refine WK.cZ ok 1000 0 [(10,aj true),(14,aj true),(19,dH d),(22,aj false),(26,aj false),(31,aj false)] [] [4,5,6,7] [decide ((0:Int)≤0∧(0:Int) < ((List.length s:Nat):Int)),decide ((0:Int)≤1∧(1:Int)≤((List.length s:Nat):Int)),decide ((0:Int)≤0∧(0:Int) < ((List.length d:Nat):Int))] [(aj (decide (0 < ((List.length s:Nat):Int))),aj true),(aj (((List.getD s 0 (0:UInt8)).toNat:Int)==45),aj true),(dH (bM s (Option.some (1)) Option.none),dH d),(aj (decide (((List.length d:Nat):Int) < 1)),aj false),(aj (decide (19 < ((List.length d:Nat):Int))),aj false),(aj (((List.getD d 0 (0:UInt8)).toNat:Int)==48),aj false)] rfl (by kernel_rfl:aJ (bq []) 1000 0 _ _ _ _ (dz 72 [.d (.str s)] [])=some (av Rt 0,Nk d true 0 0,_,_)) (by refine ⟨?_,?_,?_,trivial⟩<;>(first | rfl | exact c0 | exact c1 | exact c2)) (by refine ⟨?_,?_,?_,?_,?_,?_,trivial⟩<;>(first | exact ah rfl | exact ah e1 | exact ah e4 | exact .of_eq (by rw [e2]) | exact ah (decide_eq_true (by omega)) | exact ah (decide_eq_false (by omega)))) ?_
     exact hk
set_option maxHeartbeats 4000000 in
theorem TJ (s r:W) (c:UInt8) (hs:s=c::r) (h45:c≠45) (hl:s.length≤1000000):WK Tryz.prog 0 [.code Rt] (dz 72 [.d (.str s)] []).den (GY s):=by
 have ok:=aH (l:=[]) .nil;have hh:s.head? = some c:=by rw [hs];rfl
 have hh5:¬s.head? = some 45:=by rw [hh];intro h;exact h45 (Option.some.inj h)
 have hm:mag s=s:=by unfold mag;rw [if_neg hh5]
 have hlen:s.length=r.length+1:=by rw [hs];rfl
 have e3:s.getD 0 0=c:=by rw [hs];rfl
 have e1:((Nat.cast (R:=Int) (s.getD 0 0).toNat)==45)=false:=by rw [e3];exact zA (k:=45) (by omega) h45
 have c0:decide ((0:Int)≤0∧0 < (Nat.cast (R:=Int) s.length))=true:=decide_eq_true (by omega);by_cases g1:19 < s.length
 ·have hq:=vK (s:=s) (.inr (.inl (by rw [hm];exact g1)));exact WK.fin ok 1000 0 [(10,aj true),(14,aj false),(22,aj false),(26,aj true)] [decide ((0:Int)≤0∧(0:Int) < ((List.length s:Nat):Int))] [(aj (decide (0 < ((List.length s:Nat):Int))),aj true),(aj (((List.getD s 0 (0:UInt8)).toNat:Int)==45),aj false),(aj (decide (((List.length s:Nat):Int) < 1)),aj false),(aj (decide (19 < ((List.length s:Nat):Int))),aj true)] rfl (by kernel_rfl:au (bq []) true _ 1000 0 _ _ (dz 72 [.d (.str s)] [])=some (RV.aZ [aA (0),aj false],[],_,_)) ⟨(by first | rfl | exact c0),trivial⟩ (by refine ⟨?_,?_,?_,?_,trivial⟩<;>(first | exact ah rfl | exact ah e1 | exact ah (decide_eq_true (by omega)) | exact ah (decide_eq_false (by omega)))) ⟨by rw [hq],rfl⟩
 ·have hne:s≠[]:=by rw [hs];simp
  by_cases g2:c=48
  ·have e4:((Nat.cast (R:=Int) (s.getD 0 0).toNat)==48)=true:=by rw [e3];exact xK (k:=48) (by omega) g2
   by_cases g3:1 < s.length
   ·have hq:=vK (s:=s) (.inr (.inr ⟨by rw [hm,hh,g2],g3⟩));exact WK.fin ok 1000 0 [(10,aj true),(14,aj false),(22,aj false),(26,aj false),(31,aj true),(35,aj true)] [decide ((0:Int)≤0∧(0:Int) < ((List.length s:Nat):Int)),decide ((0:Int)≤0∧(0:Int) < ((List.length s:Nat):Int))] [(aj (decide (0 < ((List.length s:Nat):Int))),aj true),(aj (((List.getD s 0 (0:UInt8)).toNat:Int)==45),aj false),(aj (decide (((List.length s:Nat):Int) < 1)),aj false),(aj (decide (19 < ((List.length s:Nat):Int))),aj false),(aj (((List.getD s 0 (0:UInt8)).toNat:Int)==48),aj true),(aj (decide (1 < ((List.length s:Nat):Int))),aj true)] rfl (by kernel_rfl:au (bq []) true _ 1000 0 _ _ (dz 72 [.d (.str s)] [])=some (RV.aZ [aA (0),aj false],[],_,_)) (by refine ⟨?_,?_,trivial⟩<;>(first | rfl | exact c0)) (by refine ⟨?_,?_,?_,?_,?_,?_,trivial⟩<;>(first | exact ah rfl | exact ah e1 | exact ah e4 | exact ah (decide_eq_true (by omega)) | exact ah (decide_eq_false (by omega)))) ⟨by rw [hq],rfl⟩
   ·have hg:¬(mag s=[]∨19 < (mag s).length∨((mag s).head? = some 48∧1 < s.length)):=by
     rw [hm]
     rintro (h | h | h)
     ·exact hne h
     ·exact g1 h
     ·exact g3 h.2
    have hk:=Dr s s false (by omega) (fun h=>GZ hg (by rw [hm];exact h)) (fun h=>by rw [Dt hg (by rw [hm];exact h),if_neg hh5,hm];rfl);refine WK.cZ ok 1000 0 [(10,aj true),(14,aj false),(22,aj false),(26,aj false),(31,aj true),(35,aj false)] [] [4,5,6,7] [decide ((0:Int)≤0∧(0:Int) < ((List.length s:Nat):Int)),decide ((0:Int)≤0∧(0:Int) < ((List.length s:Nat):Int))] [(aj (decide (0 < ((List.length s:Nat):Int))),aj true),(aj (((List.getD s 0 (0:UInt8)).toNat:Int)==45),aj false),(aj (decide (((List.length s:Nat):Int) < 1)),aj false),(aj (decide (19 < ((List.length s:Nat):Int))),aj false),(aj (((List.getD s 0 (0:UInt8)).toNat:Int)==48),aj true),(aj (decide (1 < ((List.length s:Nat):Int))),aj false)] rfl (by kernel_rfl:aJ (bq []) 1000 0 _ _ _ _ (dz 72 [.d (.str s)] [])=some (av Rt 0,Nk s false 0 0,_,_)) (by refine ⟨?_,?_,trivial⟩<;>(first | rfl | exact c0)) (by refine ⟨?_,?_,?_,?_,?_,?_,trivial⟩<;>(first | exact ah rfl | exact ah e1 | exact ah e4 | exact ah (decide_eq_true (by omega)) | exact ah (decide_eq_false (by omega)))) ?_
    exact hk
  ·have e4:((Nat.cast (R:=Int) (s.getD 0 0).toNat)==48)=false:=by rw [e3];exact zA (k:=48) (by omega) g2
   have hg:¬(mag s=[]∨19 < (mag s).length∨((mag s).head? = some 48∧1 < s.length)):=by
    rw [hm,hh]
    rintro (h | h | h)
    ·exact hne h
    ·exact g1 h
    ·exact g2 (Option.some.inj h.1)
   have hk:=Dr s s false (by omega) (fun h=>GZ hg (by rw [hm];exact h)) (fun h=>by rw [Dt hg (by rw [hm];exact h),if_neg hh5,hm];rfl);refine WK.cZ ok 1000 0 [(10,aj true),(14,aj false),(22,aj false),(26,aj false),(31,aj false)] [] [4,5,6,7] [decide ((0:Int)≤0∧(0:Int) < ((List.length s:Nat):Int)),decide ((0:Int)≤0∧(0:Int) < ((List.length s:Nat):Int))] [(aj (decide (0 < ((List.length s:Nat):Int))),aj true),(aj (((List.getD s 0 (0:UInt8)).toNat:Int)==45),aj false),(aj (decide (((List.length s:Nat):Int) < 1)),aj false),(aj (decide (19 < ((List.length s:Nat):Int))),aj false),(aj (((List.getD s 0 (0:UInt8)).toNat:Int)==48),aj false)] rfl (by kernel_rfl:aJ (bq []) 1000 0 _ _ _ _ (dz 72 [.d (.str s)] [])=some (av Rt 0,Nk s false 0 0,_,_)) (by refine ⟨?_,?_,trivial⟩<;>(first | rfl | exact c0)) (by refine ⟨?_,?_,?_,?_,?_,trivial⟩<;>(first | exact ah rfl | exact ah e1 | exact ah e4 | exact ah (decide_eq_true (by omega)) | exact ah (decide_eq_false (by omega)))) ?_
   exact hk
theorem aak (s:W) (hl:s.length≤1000000):Go.Am.C Tryz.prog 87 [.d (.str s)] [] (fun r o=>r = .aZ [.d (.int .i64 (iw s).1),.d (.bool (iw s).2)]∧o=[]):=by
 have ok:=aH (l:=[]) .nil;refine bn (fn:=Tryz.f87) (body:=Rt) true (by kernel_rfl) (by kernel_rfl) (by kernel_rfl) ?_;cases hs:s with
 | nil=>
   have hq:iw []=(0,false):=vK (.inl rfl);obtain ⟨s2,hs2⟩:∃s2:W,[]=s2:=⟨_,rfl⟩;have hd0:s2.length=0:=by rw [←hs2];rfl
   rw [hs2] at hq ⊢;exact WK.fin ok 1000 0 [(10,aj false),(22,aj true)] [] [(aj (decide (0 < ((List.length s2:Nat):Int))),aj false),(aj (decide (((List.length s2:Nat):Int) < 1)),aj true)] rfl (by kernel_rfl:au (bq []) true _ 1000 0 _ _ (dz 72 [.d (.str s2)] [])=some (RV.aZ [aA (0),aj false],[],_,_)) trivial (by refine ⟨?_,?_,trivial⟩<;>(first | exact ah rfl | exact ah (decide_eq_true (by omega)) | exact ah (decide_eq_false (by omega)))) ⟨by rw [hq],rfl⟩
 | cons c r=>
   by_cases h45:c=45
   ·subst h45;exact TI _ r rfl (by rw [←hs];exact hl)
   ·exact TJ _ r c rfl h45 (by rw [←hs];exact hl)
theorem TK:bY Tryz.prog 87 (wK TB):=by
 refine kR fun x y c hg hc=>?_;unfold TB at hg;split at hg
 ·rename_i s;simp only [Option.some.injEq,Prod.mk.injEq] at hg;obtain ⟨rfl,rfl⟩:=hg;exact aak s (of_decide_eq_true (hc _ (by simp:decide (s.length≤1000000)∈[decide (s.length≤1000000)])))
 ·cases hg
theorem iL (s:W):(iw s).2=yY s:=by
 unfold iw yY;by_cases h:mag s=[]∨19 < (mag s).length∨((mag s).head? = some 48∧1 < s.length)
 ·rw [if_pos h];rcases h with h | h | h
  ·simp [h]
  ·have:¬(mag s).length≤19:=by omega
   simp [this]
  ·simp [h.1,h.2]
 ·rw [if_neg h];have h1:mag s≠[]:=fun e=>h (.inl e)
  have h2:(mag s).length≤19:=by
   rcases Nat.lt_or_ge 19 (mag s).length with g | g
   ·exact absurd (.inr (.inl g)) h
   ·exact g
  have h3:(!(decide ((mag s).head? = some 48)&&decide (1 < s.length)))=true:=by
   rw [Bool.not_eq_true',Bool.and_eq_false_iff,decide_eq_false_iff_not,decide_eq_false_iff_not];by_cases g:(mag s).head? = some 48
   ·exact .inr fun g2=>h (.inr (.inr ⟨g,g2⟩))
   ·exact .inl g
  rw [h3,decide_eq_true h1,decide_eq_true h2];cases ha:(mag s).all aQ.fK with
  | false=>simp
  | true=>
    simp only [if_true,Bool.true_and,Bool.and_true];generalize val 0 (mag s)=v;split
    ·by_cases g:v≤9223372036854775808
     ·rw [decide_eq_true g,decide_eq_true_iff];omega
     ·rw [decide_eq_false g,decide_eq_false_iff_not];omega
    ·by_cases g:v < 9223372036854775808
     ·rw [decide_eq_true g,decide_eq_true_iff];omega
     ·rw [decide_eq_false g,decide_eq_false_iff_not];omega
theorem mI (s:W) (h:yY s=true):(iw s).1=J4 s:=by
 have hk:=(iL s).trans h;unfold iw at hk ⊢;unfold J4;by_cases h1:mag s=[]∨19 < (mag s).length∨((mag s).head? = some 48∧1 < s.length)
 ·rw [if_pos h1] at hk;cases hk
 ·rw [if_neg h1] at hk ⊢;by_cases h2:(mag s).all aQ.fK=true
  ·rw [if_pos h2] at hk ⊢;split
   ·rename_i h3;rw [if_pos h3] at hk;simp only [decide_eq_true_iff] at hk;simp only;rw [IntKind.wrap_u64,IntKind.wrap_i64];omega
   ·rename_i h3;rw [if_neg h3] at hk;simp only [decide_eq_true_iff] at hk;simp only;rw [IntKind.wrap_i64];omega
  ·rw [if_neg h2] at hk;cases hk
end Go.Proofs.YtjoefbioobdinaaGreatDoor
