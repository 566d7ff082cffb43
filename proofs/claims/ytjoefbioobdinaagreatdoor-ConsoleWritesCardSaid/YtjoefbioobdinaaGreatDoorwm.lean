/-
  Texts that the claim leans on: KJ, AmVh, AmRg, AmRh, N6, AmKr, N7, N2, N3, N4, Sort.
-/
import Derived.Test.YtjoefbioobdinaaGreatDoorProg
import Derived.Test.YtjoefbioobdinaaGreatDoorwd
import Derived.Test.YtjoefbioobdinaaGreatDoorwh
import Derived.Test.YtjoefbioobdinaaGreatDoorwk
import Derived.Maps.RangeRun
import Derived.Lib.Builder
import Derived.Lib.UnsafeStr
import Derived.Lib.Hide
import Derived.RegionTactic
import Derived.WalkKit
import Derived.Laws.Externs
import Derived.MapKept
import Derived.Lib.MakeNoZero
import Derived.Shelf.SlGeneric
import Derived.Shelf.SlIterI.Nil
import Derived.Shelf.SortM.Plain
import Derived.Shelf.SortM.SortNone
import Derived.Ground.GgzProg
import Derived.Ground.SlgmProg
namespace Go.Proofs.YtjoefbioobdinaaGreatDoor
open Go.RowKit Am
open Go.ay hiding cut intOf take split
set_option maxRecDepth 100000
set_option linter.unusedVariables false
set_option linter.unusedSimpArgs false
def EK:DV→ay.Act
 | .agg [.int .i64 kd,.int .i64 nd,.int .i64 n,.int .i64 a,.int .u8 x,.str tx,kp]=>{ kind:=kd,node:=nd,n:=n,at_:=a,x:=x,text:=tx,keep:=mX kp }
 | _=>{}
def zF (a:ay.Act):Bool:=decide (gK a.node)&&(decide (gK a.n)&&(decide (gK a.at_)&&(decide (0≤a.x∧a.x≤255)&&(decide (a.text.length≤500000)&&decide (a.keep.length≤500000)))))
def IK (d:DV):W:=ay.line (EK d)
def wO (d:DV):Bool:=zF (EK d)
def M5:DV→Option (DV×List Bool):=fun d=>some (.str (IK d),[isA d,gQ (Gu d),wO d])
noncomputable def YT:List (Nat×kK):=[(27,e1 M5),(7,Ay ZO),(28,e2 ZW)]
theorem yV {a:ay.Act} (h:zF a=true):gK a.node∧gK a.n∧gK a.at_∧(0≤a.x∧a.x≤255)∧a.text.length≤500000∧a.keep.length≤500000:=by
 unfold zF at h;simp only [Bool.and_eq_true,decide_eq_true_eq] at h;exact h
abbrev kV (kd nd n a x:Int) (tx:W) (kp:DV):ay.Act:={ kind:=kd,node:=nd,n:=n,at_:=a,x:=x,text:=tx,keep:=mX kp }
theorem um (kd nd n a x:Int) (tx:W) (kp:DV):EK (bR kd nd n a x tx kp)=kV kd nd n a x tx kp:=rfl
set_option maxHeartbeats 400000 in
theorem nO (u:W) (fs:List DV) (kd nd n a x:Int) (tx:W) (kp:DV) (s:W) (hs:JB kd=s) (hf:Dl kd.toNat = .aC 1 fs false) (hk:mE u fs 0 s kd nd n a x tx kp):Go.Am.C Tryz.prog 27 [.d (bR kd nd n a x tx kp)] [] (fun r o=>r = .d (.str u)∧o=[]):=by
 have ok:=aJ jU;refine aH (fn:=Tryz.f27) (body:=E5) true (by kernel_rfl) (by kernel_rfl) (by kernel_rfl) ?_;refine WK.eF ok 1000 0 [(11,aR s),(12,RV.d (DV.aC 1 fs false))] [] [1,3,13,14,15] [] [(aR (Go.Proofs.YtjoefbioobdinaaGreatDoor.JB kd),aR s),(RV.d (Go.Proofs.YtjoefbioobdinaaGreatDoor.Dl kd.toNat),RV.d (DV.aC 1 fs false))] rfl (by kernel_rfl:bq (bG tl1) 1000 0 _ _ _ _ (bV 84 [.d (bR kd nd n a x tx kp)] [])=some (aF E5 0,wN (.aC 1 fs false) (fs.length:Int) (0:Nat) s (iw kd nd n a x tx (.d kp)),_,_)) trivial (by refine ⟨?_,?_,trivial⟩<;>(first | exact .of_eq (by rw [hs]) | exact .of_eq (by rw [hf]))) ?_
 exact hk
set_option maxHeartbeats 400000 in
theorem Dg (kd nd n a x:Int) (tx:W) (kp:DV) (s:W) (hs:JB kd=s) (hf:Dl kd.toNat = .aC 0 [] true):Go.Am.C Tryz.prog 27 [.d (bR kd nd n a x tx kp)] [] (fun r o=>r = .d (.str s)∧o=[]):=by
 have ok:=aJ jU;refine aH (fn:=Tryz.f27) (body:=E5) true (by kernel_rfl) (by kernel_rfl) (by kernel_rfl) ?_;have hk:=M4 (.aC 0 [] true) 0 0 s kd nd n a x tx kp (by simp);refine WK.eF ok 1000 0 [(11,aR s),(12,RV.d (DV.aC 0 [] true))] [] [1,3,13,14,15] [] [(aR (Go.Proofs.YtjoefbioobdinaaGreatDoor.JB kd),aR s),(RV.d (Go.Proofs.YtjoefbioobdinaaGreatDoor.Dl kd.toNat),RV.d (DV.aC 0 [] true))] rfl (by kernel_rfl:bq (bG tl1) 1000 0 _ _ _ _ (bV 84 [.d (bR kd nd n a x tx kp)] [])=some (aF E5 0,wN (.aC 0 [] true) 0 (0:Nat) s (iw kd nd n a x tx (.d kp)),_,_)) trivial (by refine ⟨?_,?_,trivial⟩<;>(first | exact .of_eq (by rw [hs]) | exact .of_eq (by rw [hf]))) ?_
 exact hk
theorem Gw:∀k:Nat,k < 15→(kw k).length≤20:=by decide
theorem Xr (k:Nat) (hk:k < 15) {d:W} (h:d.length≤21):(kw k++32::d).length≤3000000:=by
 have:=Gw k hk
 simp only [List.length_append,List.length_cons];omega
theorem lb2 (k:Nat) (hk:k < 15) {d e:W} (h:d.length≤21) (h2:e.length≤21):((kw k++32::d)++32::e).length≤3000000:=by
 have:=Gw k hk
 simp only [List.length_append,List.length_cons];omega
theorem SY (kd nd n a x:Int) (tx:W) (kp:DV) (hk:gQ kp=true) (hf:zF (kV kd nd n a x tx kp)=true):Go.Am.C Tryz.prog 27 [.d (bR kd nd n a x tx kp)] [] (fun r o=>r = .d (.str (ay.line (kV kd nd n a x tx kp)))∧o=[]):=by
 obtain ⟨f1,f2,f3,f4,f5,f6⟩:=yV hf;simp only at f1 f2 f3 f4 f5 f6;have hkp:Xg kp (mX kp):=⟨hk,rfl⟩;have l1:=aP f1;have l2:=aP f2;have l3:=aP f3;by_cases h:1≤kd∧kd≤14
 ·obtain ⟨k,rfl⟩:=Int.eq_ofNat_of_zero_le (show 0≤kd by omega);have h:1≤k∧k≤14:=by omega
  match k,h with
  | 1,_=>
    exact nO _ [.int .i64 6] 1 nd n a x tx kp (kw 1) rfl rfl (PZ _ _ 0 (kw 1) _ _ _ _ _ _ _ (by omega) rfl (by decide) (by omega) (jV _ _ _ _ _ _ _ _ _ _ rfl))
  | 2,_=>
    exact nO _ [.int .i64 0] 2 nd n a x tx kp (kw 2) rfl rfl (qG _ _ 0 (kw 2) _ _ _ _ _ _ _ (by omega) rfl (by decide) f1 (jV _ _ _ _ _ _ _ _ _ _ rfl))
  | 10,_=>
    exact nO _ [.int .i64 0] 10 nd n a x tx kp (kw 10) rfl rfl (qG _ _ 0 (kw 10) _ _ _ _ _ _ _ (by omega) rfl (by decide) f1 (jV _ _ _ _ _ _ _ _ _ _ rfl))
  | 3,_=>
    exact nO _ [.int .i64 1] 3 nd n a x tx kp (kw 3) rfl rfl (oC _ _ 0 (kw 3) _ _ _ _ _ _ _ (by omega) rfl (by decide) f2 (jV _ _ _ _ _ _ _ _ _ _ rfl))
  | 4,_=>
    exact nO _ [.int .i64 1] 4 nd n a x tx kp (kw 4) rfl rfl (oC _ _ 0 (kw 4) _ _ _ _ _ _ _ (by omega) rfl (by decide) f2 (jV _ _ _ _ _ _ _ _ _ _ rfl))
  | 5,_=>
    exact nO _ [.int .i64 1] 5 nd n a x tx kp (kw 5) rfl rfl (oC _ _ 0 (kw 5) _ _ _ _ _ _ _ (by omega) rfl (by decide) f2 (jV _ _ _ _ _ _ _ _ _ _ rfl))
  | 12,_=>
    exact nO _ [.int .i64 1] 12 nd n a x tx kp (kw 12) rfl rfl (oC _ _ 0 (kw 12) _ _ _ _ _ _ _ (by omega) rfl (by decide) f2 (jV _ _ _ _ _ _ _ _ _ _ rfl))
  | 14,_=>
    exact nO _ [.int .i64 1] 14 nd n a x tx kp (kw 14) rfl rfl (oC _ _ 0 (kw 14) _ _ _ _ _ _ _ (by omega) rfl (by decide) f2 (jV _ _ _ _ _ _ _ _ _ _ rfl))
  | 6,_=>
    have e:ay.line (kV (6:Nat) nd n a x tx kp)=((kw 6++32::Lib.itoa n)++32::Lib.itoa a)++32::Lib.itoa x:=by
     show kw 6++32::(Lib.itoa n++32::(Lib.itoa a++32::Lib.itoa x))=_
     simp only [List.append_assoc,List.cons_append]
    rw [e];exact nO _ [.int .i64 1,.int .i64 2,.int .i64 3] 6 nd n a x tx kp (kw 6) rfl rfl (oC _ _ 0 (kw 6) _ _ _ _ _ _ _ (by omega) rfl (by decide) f2 (MX _ _ 1 (kw 6++32::Lib.itoa n) _ _ _ _ _ _ _ (by omega) rfl (Xr 6 (by decide) l2) f3 (PY _ _ 2 ((kw 6++32::Lib.itoa n)++32::Lib.itoa a) _ _ _ _ _ _ _ (by omega) rfl (lb2 6 (by decide) l2 l3) f4 (jV _ _ _ _ _ _ _ _ _ _ rfl))))
  | 8,_=>
    have e:ay.line (kV (8:Nat) nd n a x tx kp)=(kw 8++32::Lib.itoa nd)++32::Lib.itoa n:=by
     show kw 8++32::(Lib.itoa nd++32::Lib.itoa n)=_
     simp only [List.append_assoc,List.cons_append]
    rw [e];exact nO _ [.int .i64 0,.int .i64 1] 8 nd n a x tx kp (kw 8) rfl rfl (qG _ _ 0 (kw 8) _ _ _ _ _ _ _ (by omega) rfl (by decide) f1 (oC _ _ 1 (kw 8++32::Lib.itoa nd) _ _ _ _ _ _ _ (by omega) rfl (Xr 8 (by decide) l1) f2 (jV _ _ _ _ _ _ _ _ _ _ rfl)))
  | 7,_=>
    have e:ay.line (kV (7:Nat) nd n a x tx kp)=((kw 7++32::Lib.itoa nd)++32::Lib.itoa n)++32::(if x % 2=1 then ([105,111]:W) else [115,112,97,99,101]):=by
     show kw 7++32::(Lib.itoa nd++32::(Lib.itoa n++32::(if x % 2=1 then [105,111] else [115,112,97,99,101])))=_
     simp only [List.append_assoc,List.cons_append]
    rw [e];by_cases hx:x % 2=1
    ·rw [if_pos hx];exact nO _ [.int .i64 0,.int .i64 1,.int .i64 4] 7 nd n a x tx kp (kw 7) rfl rfl (qG _ _ 0 (kw 7) _ _ _ _ _ _ _ (by omega) rfl (by decide) f1 (oC _ _ 1 (kw 7++32::Lib.itoa nd) _ _ _ _ _ _ _ (by omega) rfl (Xr 7 (by decide) l1) f2 (P6 _ _ 2 ((kw 7++32::Lib.itoa nd)++32::Lib.itoa n) _ _ _ _ _ _ _ (by omega) rfl (lb2 7 (by decide) l1 l2) f4 hx (jV _ _ _ _ _ _ _ _ _ _ rfl))))
    ·rw [if_neg hx];exact nO _ [.int .i64 0,.int .i64 1,.int .i64 4] 7 nd n a x tx kp (kw 7) rfl rfl (qG _ _ 0 (kw 7) _ _ _ _ _ _ _ (by omega) rfl (by decide) f1 (oC _ _ 1 (kw 7++32::Lib.itoa nd) _ _ _ _ _ _ _ (by omega) rfl (Xr 7 (by decide) l1) f2 (P5 _ _ 2 ((kw 7++32::Lib.itoa nd)++32::Lib.itoa n) _ _ _ _ _ _ _ (by omega) rfl (lb2 7 (by decide) l1 l2) f4 (by omega) (jV _ _ _ _ _ _ _ _ _ _ rfl))))
  | 9,_=>
    have e:ay.line (kV (9:Nat) nd n a x tx kp)=(kw 9++32::Lib.itoa nd)++(if mX kp=[] then [] else 32::jf (mX kp)):=by
     show kw 9++32::(Lib.itoa nd++(if mX kp=[] then [] else 32::jf (mX kp)))=_
     simp only [List.append_assoc,List.cons_append]
    rw [e];exact nO _ [.int .i64 0,.int .i64 5] 9 nd n a x tx kp (kw 9) rfl rfl (qG _ _ 0 (kw 9) _ _ _ _ _ _ _ (by omega) rfl (by decide) f1 (P8 _ _ 1 (kw 9++32::Lib.itoa nd) _ _ _ _ _ _ _ _ hkp (by omega) rfl (Xr 9 (by decide) l1) (jV _ _ _ _ _ _ _ _ _ _ rfl)))
  | 11,_=>
    exact Dg 11 nd n a x tx kp (kw 11) rfl rfl
  | 13,_=>
    exact Dg 13 nd n a x tx kp (kw 13) rfl rfl
 ·have h2:¬(1≤kd.toNat∧kd.toNat≤14):=by omega
  obtain ⟨e1,e2⟩:=MU h2;have e3:Dl kd.toNat = .aC 0 [] true:=by unfold Dl;rw [e2];rfl
  have e5:ay.line (kV kd nd n a x tx kp)=[]:=by
   unfold ay.line
   split<;>first | rfl | (rename_i hh;simp only at hh;omega)
  rw [e5];exact Dg kd nd n a x tx kp [] e1 e3
theorem M6:cK Tryz.prog 27 (e1 M5):=by
 refine yx fun d y c hg hc=>?_;unfold M5 at hg;simp only [Option.some.injEq,Prod.mk.injEq] at hg;obtain ⟨rfl,rfl⟩:=hg;obtain ⟨kd,nd,n,a,z,tx,kp,rfl⟩:=nN (hc (isA d) (by simp));exact SY kd nd n a z tx kp (hc (gQ (Gu (bR kd nd n a z tx kp))) (by simp)) (hc (wO (bR kd nd n a z tx kp)) (by simp))
theorem S9:eD Tryz.prog YT:=.cons M6 (.cons SH (.cons SS .nil))
theorem JG (l:List Bool):mX (keepD l)=l:=by
 unfold keepD;split
 ·rename_i h;rw [h];rfl
 ·show (l.map DV.bool).map IC=l
  rw [List.map_map];exact List.map_id l
theorem Gx {l:List Bool} (h:l.length≤1000000):gQ (keepD l)=true:=by
 unfold keepD;split
 ·rfl
 ·show ((l.map DV.bool).all jI&&decide ((l.map DV.bool).length≤1000000))=true
  rw [List.length_map,decide_eq_true h,Bool.and_true,List.all_eq_true];intro x hx;obtain ⟨b,_,rfl⟩:=List.mem_map.1 hx;rfl
theorem qH (a:ay.Act) (m:Bool) (e:Int):(ay.stop a m e).1.keep.length≤a.keep.length:=by
 unfold ay.stop;by_cases h:(if m=true then kZ e 6 else e)=0
 ·rw [if_pos h];exact Nat.le_refl _
 ·rw [if_neg h];exact Nat.zero_le _
theorem M7 (k:Nat) (m:Bool) (r:W):(wm k m r).1.keep.length≤r.length+1:=by
 unfold wm;simp only;split
 all_goals first
  | exact Nat.le_trans (qH _ _ _) (Nat.zero_le _)
  | (split<;>exact Nat.le_trans (qH _ _ _) (Nat.zero_le _))
  | skip
 split
 ·refine Nat.le_trans (qH _ _ _) ?_;unfold kL;rw [List.length_map];have h1:=CS (fD m r) (gH m r);have h2:=ou m r;omega
 ·exact Nat.le_trans (qH _ _ _) (Nat.zero_le _)
theorem Gy (s:W):(bK s).1.keep.length≤s.length+1:=by
 unfold bK;have h:=(w9 s).2;generalize kindOf (ay.cut s).1=k
 match k with
 | 0=>exact Nat.zero_le _
 | 1=>
   show (if (ay.cut s).2.2=false∨(10:UInt8)∈(ay.cut s).2.1 then (({}:ay.Act),(6:Int)) else ({ kind:=1,text:=(ay.cut s).2.1 },0)).1.keep.length≤_
   split<;>exact Nat.zero_le _
 | k+2=>
   have:=M7 (k+2) (ay.cut s).2.2 (ay.cut s).2.1
   show (wm (k+2) (ay.cut s).2.2 (ay.cut s).2.1).1.keep.length≤_
   omega
theorem M8 (kd nd n a x lg lQ n2 a2 x2:Int) (tx mW:W) (kp kU:DV):IG (bR kd nd n a x tx kp) (bR lg lQ n2 a2 x2 mW kU)=true↔ay.same (kV kd nd n a x tx kp) (kV lg lQ n2 a2 x2 mW kU):=by
 show (kd==lg&&(nd==lQ&&(n==n2&&(a==a2&&(x==x2&&(tx==mW&&jf (mX kp)==jf (mX kU)))))))=true↔_
 unfold ay.same;simp only [Bool.and_eq_true,beq_iff_eq];exact Iff.rfl
theorem M9 {a:ay.Act} (h:zF a=true):(ay.line a).length≤999999:=by
 obtain ⟨f1,f2,f3,f4,f5,f6⟩:=yV h;have l1:=aP f1;have l2:=aP f2;have l3:=aP f3;have l4:=aP (n:=a.x) ⟨by omega,by omega⟩;have kl:∀k:Nat,k < 15→(kw k).length≤20:=Gw;unfold ay.line;split
 ·have:=kl 1 (by decide)
  simp only [List.length_append,List.length_cons];omega
 ·have:=kl 2 (by decide)
  simp only [List.length_append,List.length_cons];omega
 ·have:=kl 3 (by decide)
  simp only [List.length_append,List.length_cons];omega
 ·have:=kl 4 (by decide)
  simp only [List.length_append,List.length_cons];omega
 ·have:=kl 5 (by decide)
  simp only [List.length_append,List.length_cons];omega
 ·have:=kl 6 (by decide)
  simp only [List.length_append,List.length_cons];omega
 ·have:=kl 7 (by decide)
  simp only [List.length_append,List.length_cons];split<;>simp only [List.length_cons,List.length_nil]<;>omega
 ·have:=kl 8 (by decide)
  simp only [List.length_append,List.length_cons];omega
 ·have:=kl 9 (by decide)
  simp only [List.length_append,List.length_cons];split
  ·simp only [List.length_nil];omega
  ·simp only [List.length_cons,jH,List.length_map];omega
 ·have:=kl 10 (by decide)
  simp only [List.length_append,List.length_cons];omega
 ·have:=kl 11 (by decide)
  omega
 ·have:=kl 12 (by decide)
  simp only [List.length_append,List.length_cons];omega
 ·have:=kl 13 (by decide)
  omega
 ·have:=kl 14 (by decide)
  simp only [List.length_append,List.length_cons];omega
 ·simp
set_option maxHeartbeats 400000 in
theorem Ta (kd nd n a x:Int) (tx:W) (kp:DV) (hk:gQ kp=true) (hf:zF (kV kd nd n a x tx kp)=true):Go.Am.C Tryz.prog 11 [.d (bR kd nd n a x tx kp)] [] (fun r o=>r = .bn [.d (.str (pK (kV kd nd n a x tx kp)).1),.d (.int .i64 (pK (kV kd nd n a x tx kp)).2)]∧o=[]):=by
 have ok:=aJ S9;refine aH (fn:=Tryz.f11) (body:=LnC) true (by kernel_rfl) (by kernel_rfl) (by kernel_rfl) ?_;have hlen:=M9 hf;obtain ⟨s,hs⟩:∃s,ay.line (kV kd nd n a x tx kp)=s:=⟨_,rfl⟩;rw [hs] at hlen;have hkl:=Gy s;have hP:pK (kV kd nd n a x tx kp)=if (bK s).2=0∧ay.same (kV kd nd n a x tx kp) (bK s).1 then (s,0) else ([],2):=by unfold pK;rw [hs]
 have c1:decide (s.length≤999999)=true:=decide_eq_true hlen;obtain ⟨b,e,hbe⟩:∃b e,bK s=(b,e):=⟨_,_,rfl⟩;rw [hbe] at hP hkl;have he:(bK s).2=e:=by rw [hbe]
 have hb:(bK s).1=b:=by rw [hbe]
 obtain ⟨lg,lQ,n2,a2,x2,mW,kl⟩:=b;obtain ⟨kU,Tc⟩:∃kU,keepD kl=kU:=⟨_,rfl⟩;have hact:Pw (bK s).1=bR lg lQ n2 a2 x2 mW kU:=by rw [hb];unfold Pw;simp only [Tc]
 have c2:gQ kU=true:=by rw [←Tc];exact Gx (by simp only at hkl;omega)
 have hL:mX kU=kl:=by rw [←Tc];exact JG kl
 have hsm:=M8 kd nd n a x lg lQ n2 a2 x2 tx mW kp kU;have e2:kV lg lQ n2 a2 x2 mW kU=⟨lg,lQ,n2,a2,x2,mW,kl⟩:=by rw [kV,hL]
 rw [e2] at hsm;simp only at hP;by_cases h0:e=0
 ·have ge:(e != 0)=false:=by rw [h0];rfl
  cases gs:IG (bR kd nd n a x tx kp) (bR lg lQ n2 a2 x2 mW kU) with
  | true=>
    have hq:pK (kV kd nd n a x tx kp)=(s,0):=by rw [hP,if_pos ⟨h0,hsm.1 gs⟩]
    rw [hq];exact WK.fin ok 1000 0 [(8,aR s),(12,RV.d (DV.agg [aI lg,aI lQ,aI n2,aI a2,aU x2,DV.str mW,kU])),(13,aK e),(15,aj false),(19,aj true)] [true,Go.Proofs.YtjoefbioobdinaaGreatDoor.gQ kp,Go.Proofs.YtjoefbioobdinaaGreatDoor.wO (DV.agg [aI kd,aI nd,aI n,aI a,aU x,DV.str tx,kp]),decide (List.length s≤999999),true,true,Go.Proofs.YtjoefbioobdinaaGreatDoor.gQ kp,Go.Proofs.YtjoefbioobdinaaGreatDoor.gQ kU] [(aR (Go.Proofs.YtjoefbioobdinaaGreatDoor.IK (DV.agg [aI kd,aI nd,aI n,aI a,aU x,DV.str tx,kp])),aR s),(RV.d (DV.agg [aI (Go.ay.bK s).fst.1,aI (Go.ay.bK s).fst.2,aI (Go.ay.bK s).fst.3,aI (Go.ay.bK s).fst.4,aU (Go.ay.bK s).fst.5,DV.str (Go.ay.bK s).fst.6,Go.Proofs.YtjoefbioobdinaaGreatDoor.keepD (Go.ay.bK s).fst.keep]),RV.d (DV.agg [aI lg,aI lQ,aI n2,aI a2,aU x2,DV.str mW,kU])),(aK (Go.ay.bK s).2,aK e),(aj (e != 0),aj false),(aj (Go.Proofs.YtjoefbioobdinaaGreatDoor.IG (DV.agg [aI kd,aI nd,aI n,aI a,aU x,DV.str tx,kp]) (DV.agg [aI lg,aI lQ,aI n2,aI a2,aU x2,DV.str mW,kU])),aj true)] rfl (by kernel_rfl:au (bG YT) true _ 1000 0 _ _ (bV 23 [.d (bR kd nd n a x tx kp)] [])=some (RV.bn [aR s,aK (0)],[],_,_)) (by refine ⟨?_,?_,?_,?_,?_,?_,?_,?_,trivial⟩<;>(first | rfl | exact hk | exact hf | exact c1 | exact c2)) (by refine ⟨?_,?_,?_,?_,?_,trivial⟩<;>(first | exact ah rfl | exact .of_eq (congrArg (fun w=>RV.d (.str w)) hs) | exact .of_eq (congrArg RV.d hact) | exact .of_eq (congrArg (fun z=>RV.d (.int .i64 z)) he) | exact ah ge | exact ah gs)) ⟨rfl,rfl⟩
  | false=>
    have hq:pK (kV kd nd n a x tx kp)=([],2):=by rw [hP,if_neg (fun h=>by rw [hsm.2 h.2] at gs;cases gs)]
    rw [hq];exact WK.fin ok 1000 0 [(8,aR s),(12,RV.d (DV.agg [aI lg,aI lQ,aI n2,aI a2,aU x2,DV.str mW,kU])),(13,aK e),(15,aj false),(19,aj false)] [true,Go.Proofs.YtjoefbioobdinaaGreatDoor.gQ kp,Go.Proofs.YtjoefbioobdinaaGreatDoor.wO (DV.agg [aI kd,aI nd,aI n,aI a,aU x,DV.str tx,kp]),decide (List.length s≤999999),true,true,Go.Proofs.YtjoefbioobdinaaGreatDoor.gQ kp,Go.Proofs.YtjoefbioobdinaaGreatDoor.gQ kU] [(aR (Go.Proofs.YtjoefbioobdinaaGreatDoor.IK (DV.agg [aI kd,aI nd,aI n,aI a,aU x,DV.str tx,kp])),aR s),(RV.d (DV.agg [aI (Go.ay.bK s).fst.1,aI (Go.ay.bK s).fst.2,aI (Go.ay.bK s).fst.3,aI (Go.ay.bK s).fst.4,aU (Go.ay.bK s).fst.5,DV.str (Go.ay.bK s).fst.6,Go.Proofs.YtjoefbioobdinaaGreatDoor.keepD (Go.ay.bK s).fst.keep]),RV.d (DV.agg [aI lg,aI lQ,aI n2,aI a2,aU x2,DV.str mW,kU])),(aK (Go.ay.bK s).2,aK e),(aj (e != 0),aj false),(aj (Go.Proofs.YtjoefbioobdinaaGreatDoor.IG (DV.agg [aI kd,aI nd,aI n,aI a,aU x,DV.str tx,kp]) (DV.agg [aI lg,aI lQ,aI n2,aI a2,aU x2,DV.str mW,kU])),aj false)] rfl (by kernel_rfl:au (bG YT) true _ 1000 0 _ _ (bV 23 [.d (bR kd nd n a x tx kp)] [])=some (RV.bn [aR [],aK (2)],[],_,_)) (by refine ⟨?_,?_,?_,?_,?_,?_,?_,?_,trivial⟩<;>(first | rfl | exact hk | exact hf | exact c1 | exact c2)) (by refine ⟨?_,?_,?_,?_,?_,trivial⟩<;>(first | exact ah rfl | exact .of_eq (congrArg (fun w=>RV.d (.str w)) hs) | exact .of_eq (congrArg RV.d hact) | exact .of_eq (congrArg (fun z=>RV.d (.int .i64 z)) he) | exact ah ge | exact ah gs)) ⟨rfl,rfl⟩
 ·have ge:(e != 0)=true:=bne_iff_ne.2 h0;have hq:pK (kV kd nd n a x tx kp)=([],2):=by rw [hP,if_neg (fun h=>h0 h.1)]
  rw [hq];exact WK.fin ok 1000 0 [(8,aR s),(12,RV.d (DV.agg [aI lg,aI lQ,aI n2,aI a2,aU x2,DV.str mW,kU])),(13,aK e),(15,aj true)] [true,Go.Proofs.YtjoefbioobdinaaGreatDoor.gQ kp,Go.Proofs.YtjoefbioobdinaaGreatDoor.wO (DV.agg [aI kd,aI nd,aI n,aI a,aU x,DV.str tx,kp]),decide (List.length s≤999999)] [(aR (Go.Proofs.YtjoefbioobdinaaGreatDoor.IK (DV.agg [aI kd,aI nd,aI n,aI a,aU x,DV.str tx,kp])),aR s),(RV.d (DV.agg [aI (Go.ay.bK s).fst.1,aI (Go.ay.bK s).fst.2,aI (Go.ay.bK s).fst.3,aI (Go.ay.bK s).fst.4,aU (Go.ay.bK s).fst.5,DV.str (Go.ay.bK s).fst.6,Go.Proofs.YtjoefbioobdinaaGreatDoor.keepD (Go.ay.bK s).fst.keep]),RV.d (DV.agg [aI lg,aI lQ,aI n2,aI a2,aU x2,DV.str mW,kU])),(aK (Go.ay.bK s).2,aK e),(aj (e != 0),aj true)] rfl (by kernel_rfl:au (bG YT) true _ 1000 0 _ _ (bV 23 [.d (bR kd nd n a x tx kp)] [])=some (RV.bn [aR [],aK (2)],[],_,_)) (by refine ⟨?_,?_,?_,?_,trivial⟩<;>(first | rfl | exact hk | exact hf | exact c1 | exact c2)) (by refine ⟨?_,?_,?_,?_,trivial⟩<;>(first | exact ah rfl | exact .of_eq (congrArg (fun w=>RV.d (.str w)) hs) | exact .of_eq (congrArg RV.d hact) | exact .of_eq (congrArg (fun z=>RV.d (.int .i64 z)) he) | exact ah ge | exact ah gs)) ⟨rfl,rfl⟩
def wo (d:DV):W×Int:=pK (EK d)
def Na:DV→Option (RV×List Bool):=fun d=>some (.bn [.d (.str (wo d).1),.d (.int .i64 (wo d).2)],[isA d,gQ (Gu d),wO d])
theorem Nb:cK Tryz.prog 11 (Ay Na):=by
 refine oo fun d y c hg hc=>?_;unfold Na at hg;simp only [Option.some.injEq,Prod.mk.injEq] at hg;obtain ⟨rfl,rfl⟩:=hg;obtain ⟨kd,nd,n,a,z,tx,kp,rfl⟩:=nN (hc (isA d) (by simp));exact Ta kd nd n a z tx kp (hc (gQ (Gu (bR kd nd n a z tx kp))) (by simp)) (hc (wO (bR kd nd n a z tx kp)) (by simp))
end Go.Proofs.YtjoefbioobdinaaGreatDoor
namespace Go.Am
set_option linter.unusedSectionVars false
variable {P:Program} [Gl]
section
variable [Df]
abbrev zG:=Code→Code→Option (List (Nat×VK)→VK→VK)
noncomputable def sG (hook:zG) (cf:dX) (has:Nat→Bool) (call:fI) (n fuel:Nat) (ret:VK) (c:Code):List (Nat×VK)→VK→VK:=
 Code.rec (motive:=fun _=>List (Nat×VK)→VK→VK)
  (fun _ k=>k)
  (fun _ ops draw _ k R O nx=>Cw cf has call n ops draw R O nx k)
  (fun x y hx hy e k=>Option.rec (motive:=fun _=>VK) (hx e (hy e k)) (fun f=>f e k) (hook x y))
  (fun c _ _ hx hy e k R O nx=>Lr (Wz c R) (hx e k R O nx) (hy e k R O nx))
  (fun id _ hb e k=>hb ((id,k)::e) k)
  (fun _ hb e _=>QJ (hb e) fuel)
  (fun _ _ _ _ _ _ _ _ _ _ _=>none)
  (fun id e _=>Lp id e)
  (fun _ hb e k=>hb e k)
  (fun _ _ k=>k)
  (fun _ _ _ _ _ _=>none)
  (fun _ _=>ret)
  (fun _ _ _ _ _ _=>none) c
noncomputable def Nc (hooks:Nat→zG) (fn:Nat→Option Func) (cf:dX) (has:Nat→Bool) (fuel:Nat) (call:fI):fI:=fun g args O nx wK=>
 Option.rec (motive:=fun _=>nM) none (fun f=>Option.rec (motive:=fun _=>nM) none (fun body=>
  Bool.rec (motive:=fun _=>nM) none
   (sG (hooks g) cf has call f.ntmps fuel (Jp cf f.results.toList wK) body [] (Jp cf f.results.toList wK) (Aj 0 args RT.nil) O nx)
   (Nat.ble args.length f.ntmps&&Nat.ble f.ntmps 512)) f.body) (fn g)
noncomputable def Gz (hooks:Nat→zG) (fn:Nat→Option Func) (cf:dX) (has:Nat→Bool) (fuel:Nat) (d:Nat):fI:=
 Nat.rec (motive:=fun _=>fI) (fun _ _ _ _ _=>none) (fun _ ih=>Nc hooks fn cf has fuel ih) d
inductive Sub (b:Code):Code→Prop where
 | refl:Sub b b
 | Xt {x y:Code} (h:Sub b (.seq x y)):Sub b x
 | Xu {x y:Code} (h:Sub b (.seq x y)):Sub b y
 | QY {c:Operand} {x y:Code} (h:Sub b (.cond c x y)):Sub b x
 | QZ {c:Operand} {x y:Code} (h:Sub b (.cond c x y)):Sub b y
 | block {i:Nat} {x:Code} (h:Sub b (.block i x)):Sub b x
 | loop {x:Code} (h:Sub b (.loop x)):Sub b x
 | scope {x:Code} (h:Sub b (.scope x)):Sub b x
section
variable (P)
def vC (n m:Nat) (fin:List (Nat×List RV)→VK) (body:Code) (hook:zG):Prop:=∀x y f,hook x y=some f→Sub body (.seq x y)→∀(k:List It) (e:List (Nat×VK)) (kk:VK),Good P n m fin k kk→QK P n m fin k e→Good P n m fin (.code (.seq x y)::k) (f e kk)
end
theorem iL {hook:zG} {cf:dX} (hcf:jE P cf) (fG:P.follows .mixedOrders=true) {has:Nat→Bool} {call:fI} (hs:jS P call) {n m:Nat} (hn:n≤512) {fin:List (Nat×List RV)→VK} {body:Code} (hh:vC P n m fin body hook) (fuel:Nat):∀(c:Code) (_:Sub body c) (k:List It) (e:List (Nat×VK)) (kk:VK),
 Good P n m fin k kk→QK P n m fin k e→Good P n m fin (.code c::k) (sG hook cf has call n fuel (fin Df.df) c e kk)
 | .skip,hS,k,e,kk,hk,he=>fun R O nx a h=>(hk R O nx a h).by fun _ W=>WK.skip W
 | .region id ops draw,hS,k,e,kk,hk,he=>Ep hcf fG hs hn hk
 | .seq x y,hS,k,e,kk,hk,he=>fun R O nx a h=>by
   have h:Option.rec (motive:=fun _=>VK) (sG hook cf has call n fuel (fin Df.df) x e (sG hook cf has call n fuel (fin Df.df) y e kk)) (fun f=>f e kk) (hook x y) R O nx=some a:=h;cases hx:hook x y with
   | none=>
     rw [hx] at h;exact (iL hcf fG hs hn hh fuel x hS.Xt (.code y::k) e _ (iL hcf fG hs hn hh fuel y hS.Xu k e kk hk he) (fun id R O nx a h=>he id R O nx a h) R O nx a h).by fun _ W=>WK.seq W
   | some f=>
     rw [hx] at h;exact hh x y f hx hS k e kk hk he R O nx a h
 | .cond c x y,hS,k,e,kk,hk,he=>fun R O nx a h=>by
   have h:Lr (Wz c R) (sG hook cf has call n fuel (fin Df.df) x e kk R O nx) (sG hook cf has call n fuel (fin Df.df) y e kk R O nx)=some a:=h;unfold Lr at h;split at h
   ·rename_i t hc;rw [F6] at hc;cases t with
    | true=>exact (iL hcf fG hs hn hh fuel x hS.QY k e kk hk he R O nx a h).by fun _ W=>WK.cond (t:=true) hc W
    | false=>exact (iL hcf fG hs hn hh fuel y hS.QZ k e kk hk he R O nx a h).by fun _ W=>WK.cond (t:=false) hc W
   ·cases h
 | .block id b,hS,k,e,kk,hk,he=>fun R O nx a h=>by
   refine (iL hcf fG hs hn hh fuel b hS.block (.blk id::k) ((id,kk)::e) kk (fun R O nx a h=>(hk R O nx a h).by fun _ W=>WK.blk W) (fun id' R O nx a h=>?_) R O nx a h).by fun _ W=>WK.block W;have h:Bool.rec (motive:=fun _=>VK) (Lp id' e) kk (Nat.beq id id') R O nx=some a:=h;cases hb:Nat.beq id id' with
   | true=>
     rw [hb] at h;exact ⟨k,by simp only [lD,hb,cond_true],hk R O nx a h⟩
   | false=>
     rw [hb] at h;obtain ⟨k',h1,h2⟩:=he id' R O nx a h;exact ⟨k',by simp only [lD,hb,cond_false];exact h1,h2⟩
 | .loop b,hS,k,e,kk,hk,he=>fun R O nx a h=>by
   have key:∀f,Good P n m fin (.code b :: .lp b::k) (QJ (sG hook cf has call n fuel (fin Df.df) b e) f):=by
    intro f;induction f with
    | zero=>intro R O nx a h;cases h
    | succ f ih=>exact iL hcf fG hs hn hh fuel b hS.loop (.lp b::k) e _ (fun R O nx a h=>(ih R O nx a h).by fun _ W=>WK.again W) (fun id R O nx a h=>he id R O nx a h)
   exact (key fuel R O nx a h).by fun _ W=>WK.enter W
 | .rangeFunc _ _ _ _,hS,k,e,kk,hk,he=>fun R O nx a h=>by cases h
 | .exit id,hS,k,e,kk,hk,he=>fun R O nx a h=>by
   obtain ⟨k',h1,h2⟩:=he id R O nx a h;exact h2.by fun _ W=>WK.exit h1 W
 | .scope b,hS,k,e,kk,hk,he=>fun R O nx a h=>
   (iL hcf fG hs hn hh fuel b hS.scope (.scp b::k) e kk (fun R O nx a h=>(hk R O nx a h).by fun _ W=>WK.scp W) (fun id R O nx a h=>he id R O nx a h) R O nx a h).by fun _ W=>WK.scope W
 | .label _,hS,k,e,kk,hk,he=>fun R O nx a h=>(hk R O nx a h).by fun _ W=>WK.label W
 | .goto _,hS,k,e,kk,hk,he=>fun R O nx a h=>by cases h
 | .ret,hS,k,e,kk,hk,he=>fun R O nx a h=>⟨Df.df,R,O,nx,h,WK.ret rfl⟩
 | .refuse _,hS,k,e,kk,hk,he=>fun R O nx a h=>by cases h
end
theorem Nf {cf:dX} (hcf:jE P cf) (fG:P.follows .mixedOrders=true) {hooks:Nat→zG} {fn:Nat→Option Func} (hks:∀g f body,fn g=some f→f.body=some body→∀fin,vC P f.ntmps 1048576 fin body (hooks g)) (hfn:∀g f,fn g=some f→P.funcs[g]? = some f) {has:Nat→Bool} {call:fI} (hs:jS P call) (fuel:Nat):jS P (Nc hooks fn cf has fuel call):=by
 intro g args O nx wK a hk;unfold Nc at hk;cases hf0:fn g with
 | none=>rw [hf0] at hk;cases hk
 | some f=>
   have hf:=hfn g f hf0;rw [hf0] at hk;simp only at hk;cases hb:f.body with
   | none=>rw [hb] at hk;cases hk
   | some body=>
     rw [hb] at hk;simp only at hk;cases hg:(Nat.ble args.length f.ntmps&&Nat.ble f.ntmps 512) with
     | false=>rw [hg] at hk;cases hk
     | true=>
       rw [hg] at hk;simp only at hk;simp only [Bool.and_eq_true] at hg;have g1:=Nat.le_of_ble_eq_true hg.1;have g2:=Nat.le_of_ble_eq_true hg.2
       have W:=iL (P:=P) (m:=1048576) (fin:=WC (Jp cf f.results.toList wK)) hcf fG hs g2 (hks g f body hf0 hb _) fuel body .refl [] [] (Jp cf f.results.toList wK) (fun R O nx a h=>⟨[],R,O,nx,h,WK.done rfl⟩)
        (fun id R O nx a h=>by cases h) _ _ _ _ hk
       obtain ⟨D1,R1,O1,zA,hret,W⟩:=W;cases D1 with
       | cons=>cases hret
       | nil=>
       have hret:Jp cf f.results.toList wK R1 O1 zA=some a:=hret;unfold Jp at hret;cases hres:eG (mO cf.E R1.fn O1.fn) f.results.toList with
       | none=>rw [hres] at hret;cases hret
       | some KY=>
         rw [hres] at hret;refine ⟨one KY,O1,zA,hret,?_⟩
         have aac:mR f.ntmps (Aj 0 args RT.nil) O = { n:=f.ntmps,R:=fun t=>(args[t]?).getD .bot,O:=O.fn }:=by
          unfold mR;rw [En args 0 _ (by omega),RT.FV];congr 1;funext t;simp only [Nat.not_lt_zero,if_false,Nat.zero_add,Nat.sub_zero];split
          ·rfl
          ·rw [List.getElem?_eq_none (by omega)];rfl
         intro κ φ w vs h1 h2 h3 h4;refine rz hf hb ?_
         have F:aA κ φ w { n:=f.ntmps,R:=fun t=>(args[t]?).getD .bot,O:=O.fn } { tmps:=vs++Array.replicate (f.ntmps-vs.size) undef,defers:=[] }:=by
          refine ⟨fun t=>?_,h1,h2,by simp;omega,trivial⟩;by_cases ht:t < args.length
          ·have e1:args[t]? = some args[t]:=by simp [ht]
           have e2:vs[t]? = some vs[t]:=by simp [show t < vs.size by omega]
           have e3:(vs++Array.replicate (f.ntmps-vs.size) undef).getD t undef=vs[t]:=by
            rw [Array.getD_eq_getD_getElem?,Array.getElem?_append_left (by omega),e2];rfl
           simp only [e1,Option.getD_some,e3];exact h4 t _ _ e1 e2
          ·have e1:args[t]? = none:=by simp;omega
           simp only [e1,Option.getD_none];exact .bot _
         intro b cs;rw [aac] at W;obtain ⟨e,a',w',κ',φ',s',he,hs',F',R',K',harr⟩:=W κ φ w _ F b cs;subst hs';refine ⟨e,a',w',he,⟨Qs.nil F'.df,?_⟩,harr⟩;rw [hcf.E] at hres
         have hrun:∃us:List Value,(results f a'.tmps).run P w' = .ok (if hh:us.toArray.size=1 then us.toArray[0] else .tuple us.toArray) w'∧us.length=KY.length∧
          ∀(i:Nat) (x:RV) (v:Value),KY[i]? = some x→us[i]? = some v→bJ κ' φ' O1.fn w'.heap x v:=by
          have hdef:results f a'.tmps=(do
           let vs ←f.results.mapM (Jl a'.tmps)
           pure (if h:vs.size=1 then vs[0] else .tuple vs)):=by
           unfold results Jl;rfl
          obtain ⟨us,u1,u2,u3⟩:=rY F' (Jl a'.tmps) (fun _=>rfl) (fun _ _=>rfl) _ KY hres;refine ⟨us,?_,u2,u3⟩;rw [hdef];simp only [Sem.run_bind];rw [Array.mapM_eq_mapM_toList];simp only [Sem.run_map];rw [u1];rfl
         obtain ⟨us,hrun,u2,u3⟩:=hrun
         have hlt:∀i,φ i≠.un→i < 1048576:=fun i hi=>by
          rcases Nat.lt_or_ge i 1048576 with h | h
          ·exact h
          ·have:=h1 i
           rw [OT.RA h] at this;exact absurd this hi
         exact ⟨_,hrun,_,κ',φ',rfl,KX (by omega) u3,F'.objs,F'.bnd,R',⟨fun i hi=>K'.phi i (hlt i hi) hi,fun i n hi hn=>K'.len i n (hlt i hi) hi hn⟩⟩
theorem AX {cf:dX} (hcf:jE P cf) (fG:P.follows .mixedOrders=true) {hooks:Nat→zG} {fn:Nat→Option Func} (hks:∀g f body,fn g=some f→f.body=some body→∀fin,vC P f.ntmps 1048576 fin body (hooks g)) (hfn:∀g f,fn g=some f→P.funcs[g]? = some f) {has:Nat→Bool} (fuel:Nat):∀d,jS P (Gz hooks fn cf has fuel d)
 | 0=>fun g args O nx wK a h=>by cases h
 | d+1=>Nf hcf fG hks hfn (AX hcf fG hks hfn fuel d) fuel
theorem GA {cf:dX} (hcf:jE P cf) (fG:P.follows .mixedOrders=true) {hooks:Nat→zG} {fn:Nat→Option Func} (hks:∀g f body,fn g=some f→f.body=some body→∀fin,vC P f.ntmps 1048576 fin body (hooks g)) (hfn:∀g f,fn g=some f→P.funcs[g]? = some f) (has:Nat→Bool) (fuel d:Nat) {f:Nat} {args:List RV} {objs:List av} {r:RV} {os:List av}
 (h:Jm (Cv (Gz hooks fn cf has fuel d)) f args objs=some (r,os,[])):C P f args objs (fun r2 o2=>r2=r∧o2=os):=
 H9 (Ar (AX hcf fG hks hfn fuel d)) f args objs r os [] h (by simp)
end Go.Am
namespace Go.Am
set_option linter.unusedSectionVars false
variable {P:Program} [Gl] [Df]
theorem aA.Td {κ:bE} {φ:bP} {w w' : World} {s:cu} {a:Act} (F:aA κ φ w s a) {b:Nat} {o o' : Obj} (hb:κ b = .kQ) (ho:w.heap[b]? = some o) (hc:∀c ty fz,o≠.cells c ty fz)
 (hw:w'.heap=w.heap.setIfInBounds b o'):aA κ φ w' s a:=by
 have ne:∀x,x≠b→w'.heap[x]? = w.heap[x]?:=fun x hx=>by rw [hw,Array.getElem?_setIfInBounds_ne (fun e=>hx e.symm)]
 have hsz:w'.heap.size=w.heap.size:=by rw [hw];simp
 have iV:∀x,κ x = .dN→κ x = .dN∧w'.heap[x]? = w.heap[x]?:=fun x hx=>⟨hx,ne x (fun e=>by subst e;rw [hb] at hx;cases hx)⟩
 have M:dS κ φ s.O w.heap κ φ s.O w'.heap:=
  { dN:=iV
    wQ:=fun x c ty fz hx=>⟨c,fz,by rw [ne x (fun e=>by subst e;rw [ho] at hx;injection hx with hx;exact hc _ _ _ hx)];exact hx,rfl⟩
    phi:=fun _ _=>rfl
    len:=fun _ _ _ h=>h }
 refine ⟨fun t=>(F.regs t).mono M,fun i=>(F.objs i).mono M (fun x hx=>⟨hx,ne x (fun e=>by subst e;rw [hb] at hx;cases hx)⟩) rfl,⟨fun x hx=>by rw [hsz];exact F.bnd.lt x hx,fun p hp=>?_⟩,F.n,F.df.mono M⟩;obtain ⟨h1,c,ty,fz,h2,h3⟩:=F.bnd.gl p hp;exact ⟨h1,c,ty,fz,by rw [ne p.1 (fun e=>by rw [e,ho] at h2;injection h2 with h2;exact hc _ _ _ h2)];exact h2,h3⟩
noncomputable def forget (ws:List Nat) (R:RT):RT:=ws.foldl (fun R t=>R.put t .bot) R
theorem aA.lS {κ:bE} {φ:bP} {w:World} {s:cu} {a:Act} (F:aA κ φ w s a) {d:Nat} (hd:d < s.n) (hb:s.R d = .bot) (v:Value):aA κ φ w s (a.put (some d) v):=by
 have:=F.put (d:=d) (rv:=.bot) (v:=v) hd (.bot _)
 have e:({ s with R:=jh s.R d .bot }:cu)=s:=by
  have:jh s.R d .bot=s.R:=by
   funext t;simp only [jh];split
   ·rename_i h;rw [h,hb]
   ·rfl
  rw [this]
 rw [e] at this;exact this
theorem iZ {a:Act} {n d:Nat} {v:Value} (hn:a.tmps.size=n) (hd:d < n):(a.put (some d) v).eval (.tmp d)=v:=by
 show (a.put (some d) v).tmps.getD d undef=v
 rw [xB,if_pos ⟨rfl,by rw [hn];exact hd⟩]
theorem dZ {a:Act} {d t:Nat} {v:Value} (h:t≠d):(a.put (some d) v).eval (.tmp t)=a.eval (.tmp t):=by
 show (a.put (some d) v).tmps.getD t undef=a.tmps.getD t undef
 rw [xB,if_neg (fun e=>h e.1)]
theorem gT (a:Act) (d:Nat) (v:Value):(a.put (some d) v).tmps.size=a.tmps.size:=by simp [Act.put]
structure kP where
 it:Nat
 nx:Nat
 tb:Nat
 en:Nat
 ke:Nat
 kv:Nat
 a1:Nat
 a2:Nat
 tg:Nat
 pg:Nat
def kP.ws (g:kP):List Nat:=[g.it,g.nx,g.tb,g.en,g.ke,g.kv,g.a1,g.a2,g.tg]
theorem EM {ops:Array Oper} {o0 o1:Oper} (ho:ops = #[o0,o1]) {g:kP} (h0:o0.op = .next (.tmp g.it) false) (d0:o0.dst=some g.nx) (g0:o0.guard=none)
 (h1:o1.op = .extract (.tmp g.nx) 0) (d1:o1.dst=some g.tb) (g1:o1.guard=none) {a:Act} {w w' : World} {n:Nat} (hn:a.tmps.size=n) (hnx:g.nx < n) {t:Bool} {vs:Array Value} {bp:Value}
 (hit:a.eval (.tmp g.it)=bp) (hv0:vs[0]? = some (.bool t)) (hr:(Instr.next bp false o0.type).run P w = .ok (.tuple vs) w') :
 wpOps P ops (fun e a' w2=>e = .normal∧w2=w'∧a'=(a.put (some g.nx) (.tuple vs)).put (some g.tb) (.bool t)) (List.range ops.size) a w:=by
 subst ho;have hsz:(#[o0,o1]:Array Oper).size=2:=rfl;rw [hsz]
 show wpOps P #[o0,o1] _ [0,1] a w
 rw [wpOps_cons];unfold wpOp;have e0:(#[o0,o1]:Array Oper)[0]? = some o0:=rfl;rw [e0];simp only [Region.wanted,g0,if_true];left;refine eX (v:=.tuple vs) (w':=w') ?_ ?_
 ·simp only [execOp,h0,hit,Sem.run_bind,hr,Result.andThen_ok,Sem.run_pure]
 ·rw [d0,wpOps_cons];unfold wpOp;have e1:(#[o0,o1]:Array Oper)[1]? = some o1:=rfl;rw [e1];simp only [Region.wanted,g1,if_true];left;refine eX (v:=.bool t) (w':=w') ?_ ?_
  ·have hx:(a.put (some g.nx) (.tuple vs)).eval (.tmp g.nx) = .tuple vs:=iZ hn hnx;simp only [execOp,h1,hx];simp [Instr.extract,hv0]
  ·rw [d1];exact ⟨rfl,rfl,rfl⟩
theorem jW {ops:Array Oper} {Q:Exit→Act→World→Prop} {i:Nat} {rest:List Nat} {o:Oper} (hi:ops[i]? = some o) (hg:o.guard=none) {d:Nat} (hd:o.dst=some d) {a:Act} {w w' : World} {v:Value}
 (hr:(execOp a.eval o).run P w = .ok (.value v) w') (h:wpOps P ops Q rest (a.put (some d) v) w'):wpOps P ops Q (i::rest) a w:=by
 rw [wpOps_cons];unfold wpOp;rw [hi];simp only [Region.wanted,hg,if_true];left;exact eX hr (by rw [hd];exact h)
theorem JH {ops:Array Oper} {o0 o1 o2:Oper} (ho:ops = #[o0,o1,o2]) {g:kP} (h0:o0.op = .entry (.tmp g.it)) (d0:o0.dst=some g.en) (g0:o0.guard=none)
 (h1:o1.op = .extract (.tmp g.en) 0) (d1:o1.dst=some g.ke) (g1:o1.guard=none) (h2:o2.op = .assign (.tmp g.ke)) (d2:o2.dst=some g.kv) (g2:o2.guard=none)
 {a:Act} {w:World} {n:Nat} (hn:a.tmps.size=n) (hen:g.en < n) (hke:g.ke < n) {k v bp:Value} (hit:a.eval (.tmp g.it)=bp) (hr:(Instr.entry bp).run P w = .ok (.tuple #[k,v]) w) :
 wpOps P ops (fun e a' w2=>e = .normal∧w2=w∧a'=((a.put (some g.en) (.tuple #[k,v])).put (some g.ke) k).put (some g.kv) k) (List.range ops.size) a w:=by
 subst ho
 show wpOps P #[o0,o1,o2] _ [0,1,2] a w
 refine jW (o:=o0) rfl g0 d0 (v:=.tuple #[k,v]) (w':=w) ?_ (jW (o:=o1) rfl g1 d1 (v:=k) (w':=w) ?_ (jW (o:=o2) rfl g2 d2 (v:=k) (w':=w) ?_ ⟨rfl,rfl,rfl⟩))
 ·simp only [execOp,h0,hit,Sem.run_bind,hr,Result.andThen_ok,Sem.run_pure]
 ·have hx:(a.put (some g.en) (.tuple #[k,v])).eval (.tmp g.en) = .tuple #[k,v]:=iZ hn hen;simp only [execOp,h1,hx];simp [Instr.extract]
 ·have hx:((a.put (some g.en) (.tuple #[k,v])).put (some g.ke) k).eval (.tmp g.ke)=k:=iZ (by rw [gT];exact hn) hke;simp only [execOp,h2,hx];rfl
theorem P9 {ops:Array Oper} {o0 o1 o2:Oper} {T T2:TypeId} (ho:ops = #[o0,o1,o2]) {g:kP} (h0:o0.op = .move (.tmp g.kv)) (d0:o0.dst=some g.a1) (g0:o0.guard=none)
 (h1:o1.op = .move (.tmp g.pg)) (d1:o1.dst=some g.a2) (g1:o1.guard=none) (h2:o2.op = .binOp .gtr T (.tmp g.a1) (.tmp g.a2) T2) (d2:o2.dst=some g.tg) (g2:o2.guard=none)
 {a:Act} {w:World} {n:Nat} (hn:a.tmps.size=n) (ha1:g.a1 < n) (ha2:g.a2 < n) (hne:g.pg≠g.a1) (hne2:g.a1≠g.a2) {k p:Int} (hk:a.eval (.tmp g.kv) = .int .i64 k) (hp:a.eval (.tmp g.pg) = .int .i64 p) (hle:k≤p) :
 wpOps P ops (fun e a' w2=>e = .normal∧w2=w∧a'=((a.put (some g.a1) (.int .i64 k)).put (some g.a2) (.int .i64 p)).put (some g.tg) (.bool false)) (List.range ops.size) a w:=by
 subst ho
 show wpOps P #[o0,o1,o2] _ [0,1,2] a w
 refine jW (o:=o0) rfl g0 d0 (v:=.int .i64 k) (w':=w) ?_ (jW (o:=o1) rfl g1 d1 (v:=.int .i64 p) (w':=w) ?_ (jW (o:=o2) rfl g2 d2 (v:=.bool false) (w':=w) ?_ ⟨rfl,rfl,rfl⟩))
 ·simp only [execOp,h0,hk];rfl
 ·have hx:(a.put (some g.a1) (.int .i64 k)).eval (.tmp g.pg) = .int .i64 p:=by rw [dZ hne];exact hp
  simp only [execOp,h1,hx];rfl
 ·have hx:((a.put (some g.a1) (.int .i64 k)).put (some g.a2) (.int .i64 p)).eval (.tmp g.a2) = .int .i64 p:=iZ (by rw [gT];exact hn) ha2;have hy:((a.put (some g.a1) (.int .i64 k)).put (some g.a2) (.int .i64 p)).eval (.tmp g.a1) = .int .i64 k:=by rw [dZ hne2];exact iZ hn ha1
  have hlt:¬p < k:=by omega
  simp only [execOp,h2,hx,hy];simp [eqGuard,binOp,Op.intCmp,hlt]
structure sH where
 r7:Nat
 Qa:Array Oper
 N9:Nat
 id1:Nat
 r8:Nat
 Te:Array Oper
 r9:Nat
 Tf:Array Oper
 del:Code
def sH.body (c:sH) (g:kP):Code:=
 .seq (.region c.r7 c.Qa false) (.seq (.cond (.tmp g.tb) .skip (.exit c.N9)) (.block c.id1 (.seq (.region c.r8 c.Te false) (.seq (.region c.r9 c.Tf false) (.cond (.tmp g.tg) c.del .skip)))))
structure RgOk (c:sH) (g:kP) (n:Nat):Prop where
 o7:∃o0 o1,c.Qa = #[o0,o1]∧o0.op = .next (.tmp g.it) false∧o0.dst=some g.nx∧o0.guard=none∧o1.op = .extract (.tmp g.nx) 0∧o1.dst=some g.tb∧o1.guard=none
 o8:∃o0 o1 o2,c.Te = #[o0,o1,o2]∧o0.op = .entry (.tmp g.it)∧o0.dst=some g.en∧o0.guard=none∧o1.op = .extract (.tmp g.en) 0∧o1.dst=some g.ke∧o1.guard=none∧o2.op = .assign (.tmp g.ke)∧o2.dst=some g.kv∧o2.guard=none
 o9:∃o0 o1 o2 T T2,c.Tf = #[o0,o1,o2]∧o0.op = .move (.tmp g.kv)∧o0.dst=some g.a1∧o0.guard=none∧o1.op = .move (.tmp g.pg)∧o1.dst=some g.a2∧o1.guard=none∧o2.op = .binOp .gtr T (.tmp g.a1) (.tmp g.a2) T2∧o2.dst=some g.tg∧o2.guard=none
 lt:∀d∈g.ws,d < n
 pgw:g.pg∉g.ws
 nodup:g.ws.Nodup
theorem vD {id:Nat} {ops:Array Oper} {a a1:Act} {w w' : World} (h:wpOps P ops (fun e a' w2=>e = .normal∧w2=w'∧a'=a1) (List.range ops.size) a w) (fr:Frame) (k:List Item) (cs:List Frame) :
 Steps P (lone (fr.at a (.code (.region id ops false)::k)) cs w) (lone (fr.at a1 k) cs w'):=by
 obtain ⟨e,a2,w2,⟨rfl,rfl,rfl⟩,harr⟩:=wp_region (id:=id) h fr k cs;exact harr
theorem Qb {c:sH} {g:kP} {n m:Nat} (hc:RgOk c g n) {K:List It} {Q:cu→Prop} {s:cu} (hsn:s.n=n) (Xv:∀d∈g.ws,d≠g.it→s.R d = .bot) {p:Int} (hpg:s.R g.pg = .d (.int .i64 p))
 (hK:WK P m K s Q) {κ0:bE} {w0:World} {φ0:bP} {O0:Tab} {b mb since clock:Nat} {eB:Array MapEntry} (hb0:w0.heap.size≤b) (hold:∀x∈eB.toList,x.born < since) (hnd:(eB.toList.map (·.born)).Nodup)
 (hle:∀x∈eB.toList,∃k:Int,x.key = .int .i64 k∧k≤p) (hne:mb≠b) :
 ∀(fuel:Nat) (κ:bE) (φ:bP) (w:World) (a:Act) (seen:Array Nat) (c0:Nat),(leftOf eB seen).size=fuel→aA κ φ w s a→Fr κ0 w0 κ w→nP m φ0 O0 φ s.O→κ b = .kQ→
  w.heap[b]? = some (.mapIter (some mb) since seen c0)→since≤c0→w.heap[mb]? = some (.map eB clock)→since≤clock→a.eval (.tmp g.it) = .pointer (some ⟨b,0,none⟩)→
  ∀(fr:Frame) (cs:List Frame),∃e a' w' κ' φ' s',(e = .normal∨e = .ret)∧Q s'∧aA κ' φ' w' s' a'∧Fr κ0 w0 κ' w'∧nP m φ0 O0 φ' s'.O∧
   Arrives P (lone (fr.at a ((.code (c.body g) :: .lp (c.body g) :: .blk c.N9::K).map It.item)) cs w) fr [] cs e a' w':=by
 obtain ⟨p0,p1,e7,p2,p3,p4,p5,p6,p7⟩:=hc.o7;obtain ⟨q0,q1,q2,e8,q3,q4,q5,q6,q7,q8,q9,q10,q11⟩:=hc.o8;obtain ⟨t0,t1,t2,T,T2,e9,t3,t4,t5,t6,t7,t8,t9,t10,t11⟩:=hc.o9;have hw:=hc.lt;have Ng:=hc.nodup;have Dh:=hc.pgw;simp only [kP.ws,List.mem_cons,List.mem_nil_iff,or_false,forall_eq_or_imp,forall_eq] at hw Xv;simp only [kP.ws,List.nodup_cons,List.mem_cons,List.mem_nil_iff,or_false,not_or] at Ng;simp only [kP.ws,List.mem_cons,List.mem_nil_iff,or_false,not_or] at Dh;obtain ⟨l1,l2,l3,l4,l5,l6,l7,l8,l9⟩:=hw;obtain ⟨-,u2,u3,u4,u5,u6,u7,u8,u9⟩:=Xv;obtain ⟨⟨n12,n13,n14,n15,n16,n17,n18,n19⟩,⟨n23,n24,n25,n26,n27,n28,n29⟩,⟨n34,n35,n36,n37,n38,n39⟩,⟨n45,n46,n47,n48,n49⟩,⟨n56,n57,n58,n59⟩,⟨n67,n68,n69⟩,⟨n78,n79⟩,n89,-⟩:=Ng;have r2:=u2 (fun e=>n12 e.symm);have r3:=u3 (fun e=>n13 e.symm);have r4:=u4 (fun e=>n14 e.symm);have r5:=u5 (fun e=>n15 e.symm);have r6:=u6 (fun e=>n16 e.symm);have r7:=u7 (fun e=>n17 e.symm);have r8:=u8 (fun e=>n18 e.symm);have r9:=u9 (fun e=>n19 e.symm);intro fuel;induction fuel using Nat.strongRecOn with
 | _ fuel ih=>
   intro κ φ w a seen c0 hfuel F hR hKp hκ hr hsc hm hsk hit fr cs;have hn:a.tmps.size=n:=by rw [F.n];exact hsn
   have start:∀{a1:Act} {w1:World},wpOps P c.Qa (fun e a' w2=>e = .normal∧w2=w1∧a'=a1) (List.range c.Qa.size) a w→
    Steps P (lone (fr.at a ((.code (c.body g) :: .lp (c.body g) :: .blk c.N9::K).map It.item)) cs w)
     (lone (fr.at a1 (.code (.seq (.cond (.tmp g.tb) .skip (.exit c.N9)) (.block c.id1 (.seq (.region c.r8 c.Te false) (.seq (.region c.r9 c.Tf false) (.cond (.tmp g.tg) c.del .skip))))) :: .inLoop (c.body g) :: .inBlock c.N9::K.map It.item)) cs w1):=by
    intro a1 w1 h;refine Steps.trans (.one step_seq) ?_;exact vD h fr _ cs
   rcases Go.run_next_at w p0.type b mb since c0 seen eB clock hr hm hold hsc with ⟨_,hrun⟩ | ⟨e,he,w1,hw1,hrun⟩
   ·have h7:=EM (P:=P) e7 p2 p3 p4 p5 p6 p7 hn l2 hit (t:=false) rfl hrun;have F1:aA κ φ w s ((a.put (some g.nx) (.tuple #[.bool false])).put (some g.tb) (.bool false)):=(F.lS (by rw [hsn];exact l2) r2 _).lS (by rw [hsn];exact l3) r3 _;obtain ⟨e',a',w',κ',φ',s',h1,h2,h3,h4,h5,h6⟩:=hK κ φ w _ F1 fr cs;refine ⟨e',a',w',κ',φ',s',h1,h2,h3,hR.trans h4,hKp.trans h5,h6.of_steps ?_⟩;refine Steps.trans (start h7) (Steps.trans (.one step_seq) (Steps.trans (.one (step_cond (t:=false) (iZ (by rw [gT];exact hn) l3))) ?_));refine .one (step_exit ?_);simp [exitTo]
   ·obtain ⟨hme,_⟩:=Go.mem_left he;obtain ⟨kk,hkk,hkp⟩:=hle e hme
    have hh:(ChangeMaps.setBlock w1 b (.mapIter (some mb) since (seen.push e.born) clock)).heap=w.heap.setIfInBounds b (.mapIter (some mb) since (seen.push e.born) clock):=by
     rcases hw1 with rfl | rfl<;>rfl
    have hos:(ChangeMaps.setBlock w1 b (.mapIter (some mb) since (seen.push e.born) clock)).os=w.os∧(ChangeMaps.setBlock w1 b (.mapIter (some mb) since (seen.push e.born) clock)).output=w.output:=by
     rcases hw1 with rfl | rfl<;>exact ⟨rfl,rfl⟩
    generalize ChangeMaps.setBlock w1 b (.mapIter (some mb) since (seen.push e.born) clock)=w2 at hrun hh hos;have hlt:=(Array.getElem?_eq_some_iff.1 hr).1;have hb2:w2.heap[b]? = some (.mapIter (some mb) since (seen.push e.born) clock):=by rw [hh];simp [hlt]
    have hm2:w2.heap[mb]? = some (.map eB clock):=by rw [hh,Array.getElem?_setIfInBounds_ne (fun e=>hne e.symm)];exact hm
    have ne:∀x,x≠b→w2.heap[x]? = w.heap[x]?:=fun x hx=>by rw [hh,Array.getElem?_setIfInBounds_ne (fun e=>hx e.symm)]
    have F2:aA κ φ w2 s a:=F.Td hκ hr (by intro c ty fz h;cases h) hh
    have hR2:Fr κ0 w0 κ w2:=by
     refine ⟨by rw [hh];simpa using hR.size,fun x hx=>?_,fun x hx ho=>?_,fun x c ty fz hx=>?_,hos.1.trans hR.os,hos.2.trans hR.out⟩
     ·obtain ⟨a1,a2⟩:=hR.dN x hx;exact ⟨a1,(ne x (fun e=>by subst e;rw [hκ] at a1;cases a1)).trans a2⟩
     ·obtain ⟨a1,a2⟩:=hR.kQ x hx ho;exact ⟨a1,(ne x (by omega)).trans a2⟩
     ·obtain ⟨c',uz,a1,a2⟩:=hR.wQ x c ty fz hx
      have:=(Array.getElem?_eq_some_iff.1 hx).1
      exact ⟨c',uz,(ne x (by omega)).trans a1,a2⟩
    have hpv:a.eval (.tmp g.pg) = .int .i64 p:=by
     have:=F.regs g.pg
     rw [hpg] at this
     show a.tmps.getD g.pg undef=_
     generalize a.tmps.getD g.pg undef=v at this;cases this with
     | d h=>cases h;rfl
    have h7:=EM (P:=P) e7 p2 p3 p4 p5 p6 p7 hn l2 hit (t:=true) rfl hrun;have hn2:((a.put (some g.nx) (.tuple #[.bool true,e.key,e.val])).put (some g.tb) (.bool true)).tmps.size=n:=by rw [gT,gT];exact hn
    have hit2:((a.put (some g.nx) (.tuple #[.bool true,e.key,e.val])).put (some g.tb) (.bool true)).eval (.tmp g.it) = .pointer (some ⟨b,0,none⟩):=by
     rw [dZ n13,dZ n12];exact hit
    have hp2:((a.put (some g.nx) (.tuple #[.bool true,e.key,e.val])).put (some g.tb) (.bool true)).eval (.tmp g.pg) = .int .i64 p:=by
     rw [dZ Dh.2.2.1,dZ Dh.2.1];exact hpv
    have F3:aA κ φ w2 s ((a.put (some g.nx) (.tuple #[.bool true,e.key,e.val])).put (some g.tb) (.bool true)):=(F2.lS (by rw [hsn];exact l2) r2 _).lS (by rw [hsn];exact l3) r3 _;have htb:((a.put (some g.nx) (.tuple #[.bool true,e.key,e.val])).put (some g.tb) (.bool true)).eval (.tmp g.tb) = .bool true:=iZ (by rw [gT];exact hn) l3;have first:=start h7;generalize (a.put (some g.nx) (.tuple #[.bool true,e.key,e.val])).put (some g.tb) (.bool true)=a2 at hn2 hit2 hp2 F3 htb first;have h8:=JH (P:=P) e8 q3 q4 q5 q6 q7 q8 q9 q10 q11 hn2 l4 l5 hit2 (Go.run_entry_at w2 b mb since seen eB clock e hb2 hm2 hme hnd);have hn3:(((a2.put (some g.en) (.tuple #[e.key,e.val])).put (some g.ke) e.key).put (some g.kv) e.key).tmps.size=n:=by rw [gT,gT,gT];exact hn2
    have hk3:(((a2.put (some g.en) (.tuple #[e.key,e.val])).put (some g.ke) e.key).put (some g.kv) e.key).eval (.tmp g.kv) = .int .i64 kk:=by rw [iZ (by rw [gT,gT];exact hn2) l6];exact hkk
    have hp3:(((a2.put (some g.en) (.tuple #[e.key,e.val])).put (some g.ke) e.key).put (some g.kv) e.key).eval (.tmp g.pg) = .int .i64 p:=by
     rw [dZ Dh.2.2.2.2.2.1,dZ Dh.2.2.2.2.1,dZ Dh.2.2.2.1];exact hp2
    have hit3:(((a2.put (some g.en) (.tuple #[e.key,e.val])).put (some g.ke) e.key).put (some g.kv) e.key).eval (.tmp g.it) = .pointer (some ⟨b,0,none⟩):=by
     rw [dZ n16,dZ n15,dZ n14];exact hit2
    have F4:aA κ φ w2 s (((a2.put (some g.en) (.tuple #[e.key,e.val])).put (some g.ke) e.key).put (some g.kv) e.key):=
     ((F3.lS (by rw [hsn];exact l4) r4 _).lS (by rw [hsn];exact l5) r5 _).lS (by rw [hsn];exact l6) r6 _
    generalize ((a2.put (some g.en) (.tuple #[e.key,e.val])).put (some g.ke) e.key).put (some g.kv) e.key=a3 at h8 hn3 hk3 hp3 hit3 F4;have h9:=P9 (P:=P) (w:=w2) e9 t3 t4 t5 t6 t7 t8 t9 t10 t11 hn3 l7 l8 Dh.2.2.2.2.2.2.1 n78 hk3 hp3 hkp
    have F5:aA κ φ w2 s (((a3.put (some g.a1) (.int .i64 kk)).put (some g.a2) (.int .i64 p)).put (some g.tg) (.bool false)):=
     ((F4.lS (by rw [hsn];exact l7) r7 _).lS (by rw [hsn];exact l8) r8 _).lS (by rw [hsn];exact l9) r9 _
    have htg:(((a3.put (some g.a1) (.int .i64 kk)).put (some g.a2) (.int .i64 p)).put (some g.tg) (.bool false)).eval (.tmp g.tg) = .bool false:=iZ (by rw [gT,gT];exact hn3) l9
    have aad:(((a3.put (some g.a1) (.int .i64 kk)).put (some g.a2) (.int .i64 p)).put (some g.tg) (.bool false)).eval (.tmp g.it) = .pointer (some ⟨b,0,none⟩):=by
     rw [dZ n19,dZ n18,dZ n17];exact hit3
    obtain ⟨e',a',w',κ',φ',s',h1,h2,h3,h4,h5,h6⟩:=ih _ (by rw [←hfuel];exact Go.left_shrinks eB seen e he) κ φ w2 _ (seen.push e.born) clock rfl F5 hR2 hKp hκ hb2 hsk hm2 hsk aad fr cs;refine ⟨e',a',w',κ',φ',s',h1,h2,h3,h4,h5,h6.of_steps ?_⟩;refine Steps.trans first (Steps.trans (.one step_seq) (Steps.trans (.one (step_cond (t:=true) htb)) (Steps.trans (.one step_skip) (Steps.trans (.one step_block) (Steps.trans (.one step_seq) ?_)))));refine Steps.trans (vD h8 fr _ cs) (Steps.trans (.one step_seq) (Steps.trans (vD h9 fr _ cs) (Steps.trans (.one (step_cond (t:=false) htg)) (Steps.trans (.one step_skip) (Steps.trans (.one step_inBlock) (.one step_inLoop))))))
theorem EN {cf:dX} (hcf:jE P cf) {has:Nat→Bool} {call:fI} (hs:jS P call) {ops:Array Oper} {n:Nat} (hn2:n≤512) (hg:dF n ops=true):∀(l:List Oper) (k:Nat) {R:RT} {O:OT} {nx:Nat} {kk:VK} {a},
 F7 cf has call ops l R O nx kk=some a→(∀i o,l[i]? = some o→ops[k+i]? = some o)→
 ∃R' O' nx',kk R' O' nx'=some a∧∀{κ:bE} {φ:bP} {w:World} {act:Act} {Q:Exit→Act→World→Prop} {rest:List Nat},aA κ φ w (mR n R O) act→
  (∀a' w' κ' φ',aA κ' φ' w' (mR n R' O') a'→Fr κ w κ' w'→Kp φ O.fn φ' O'.fn→wpOps P ops Q rest a' w')→wpOps P ops Q (List.range' k l.length++rest) act w
 | [],k,R,O,nx,kk,a,h,hl=>⟨R,O,nx,h,fun F hk=>hk _ _ _ _ F (Fr.refl _ _) (Kp.refl _ _)⟩
 | o::r,k,R,O,nx,kk,a,h,hl=>by
   have h:RB cf has call ops o R O nx (fun R O nx=>F7 cf has call ops r R O nx kk)=some a:=h;obtain ⟨vc,R1,O1,zA,hv,h1,h2⟩:=Ls hs h;obtain ⟨R2,O2,Zi,h3,h4⟩:=EN hcf hs hn2 hg r (k+1) h2 (fun i o' hi=>by have:=hl (i+1) o' (by simpa using hi);rw [←this];congr 1;omega);refine ⟨R2,O2,Zi,h3,fun F hk=>?_⟩;have hk0:ops[k]? = some o:=by simpa using hl 0 o rfl
   simp only [List.length_cons,List.range'_succ,List.cons_append];rw [wpOps_cons];refine Cn hcf hv F h1 hk0 (dw hg) hn2 (fun a' w' κ' φ' g1 g2 g3=>?_);exact h4 g1 (fun a2 w2 κ2 φ2 k1 k2 k3=>hk a2 w2 κ2 φ2 k1 (g2.trans k2) (g3.trans k3))
def noF:fI:=fun _ _ _ _ _=>none
theorem Tg:jS P noF:=fun _ _ _ _ _ _ h=>by cases h
theorem AY:∀(ws:List Nat) (R:RT),(∀d∈ws,d < 512)→(forget ws R).fn=fun t=>if t∈ws then .bot else R.fn t
 | [],R,_=>by funext t;simp [forget]
 | d::r,R,h=>by
   have:forget (d::r) R=forget r (R.put d .bot):=rfl
   rw [this,AY r _ (fun x hx=>h x (by simp [hx])),RT.sj (h d (by simp))];funext t;by_cases h1:t∈r
   ·simp [h1]
   ·simp only [h1,if_false,jh,List.mem_cons,or_false]
theorem aA.Qc {κ:bE} {φ:bP} {w w' : World} {s:cu} {a:Act} (F:aA κ φ w s a) {o:Obj} (hw:w'.heap=w.heap.push o):aA κ φ w' s a:=by
 have ne:∀x,x < w.heap.size→w'.heap[x]? = w.heap[x]?:=fun x hx=>by rw [hw,dM hx]
 have iV:∀x,κ x = .dN→κ x = .dN∧w'.heap[x]? = w.heap[x]?:=fun x hx=>⟨hx,ne x (F.bnd.lt x (by rw [hx];simp))⟩
 have M:dS κ φ s.O w.heap κ φ s.O w'.heap:=
  { dN:=iV
    wQ:=fun x c ty fz hx=>⟨c,fz,by rw [ne x (jv hx)];exact hx,rfl⟩
    phi:=fun _ _=>rfl
    len:=fun _ _ _ h=>h }
 refine ⟨fun t=>(F.regs t).mono M,fun i=>(F.objs i).mono M (fun x hx=>⟨hx,ne x (F.bnd.lt x (by rw [hx];simp))⟩) rfl,⟨fun x hx=>by rw [hw];simp only [Array.size_push];have:=F.bnd.lt x hx;omega,fun p hp=>?_⟩,F.n,F.df.mono M⟩;obtain ⟨h1,c,ty,fz,h2,h3⟩:=F.bnd.gl p hp;exact ⟨h1,c,ty,fz,by rw [ne p.1 (jv h2)];exact h2,h3⟩
def GD (p:Int) (es:List (DV×DV)):Bool:=es.all fun x=>match x.1 with
 | .int .i64 k=>decide (k≤p)
 | _=>false
theorem Xw {cf:dX} (hcf:jE P cf) {has:Nat→Bool} {n m:Nat} (hn:n≤512) {r6:Nat} {pQ:Array Oper} {pre:List Oper} {oR:Oper} {t k0 v0:TypeId} {mx:Nat} {c:sH} {g:kP}
 (h6:pQ.toList=pre++[oR]) (hg6:dF n pQ=true) (hR:oR.op = .range t (.tmp mx)) (dR:oR.dst=some g.it) (gR:oR.guard=none) (hu:P.underlying t=some (.map k0 v0)) (hc:RgOk c g n)
 {R:RT} {O:OT} {nx:Nat} {kk:VK} {a:RV×OT×Nat} {K:List It} {fin:List (Nat×List RV)→VK} (hK:Good P n m fin K kk)
 (h:F7 cf has noF pQ pre R O nx (fun R1 O1 zA=>match R1.fn mx,R1.fn g.pg with
   | .map i,.d (.int .i64 p)=>match O1.fn i with
     | some (.map es)=>bif GD p es then kk (forget g.ws R1) O1 zA else none
     | _=>none
   | _,_=>none)=some a):Ends P n m fin (.code (.seq (.region r6 pQ false) (.block c.N9 (.loop (c.body g))))::K) R O a:=by
 have hi:∀i o,pre[i]? = some o→pQ[0+i]? = some o:=fun i o hio=>by
  rw [Nat.zero_add,←Array.getElem?_toList,h6,List.getElem?_append_left (List.getElem?_eq_some_iff.1 hio).1];exact hio
 obtain ⟨R1,O1,zA,h3,h4⟩:=EN hcf Tg hn hg6 pre 0 h hi;split at h3
 ·rename_i i p hmx hpg;split at h3
  ·rename_i es hes;cases hk:GD p es with
   | false=>rw [hk] at h3;cases h3
   | true=>
     rw [hk] at h3;obtain ⟨Df1,Rf,Of,nxf,hf,W⟩:=hK _ _ _ _ h3;refine ⟨Df1,Rf,Of,nxf,hf,?_⟩;intro κ φ w a0 F fr cs
     have hlen:List.range pQ.size=List.range' 0 pre.length++[pre.length]:=by
      have:pQ.size=pre.length+1:=by rw [←Array.length_toList,h6];simp
      rw [this,List.range_eq_range',List.range'_concat];simp
     have hoR:pQ[pre.length]? = some oR:=by rw [←Array.getElem?_toList,h6];simp
     have aae:wpOps P pQ (fun e a' w2=>e = .normal∧∃κ1 φ1 w1 a1 mb eB clock,aA κ1 φ1 w1 (mR n R1 O1) a1∧Fr κ w κ1 w1∧Kp φ O.fn φ1 O1.fn∧φ1 i = .at mb∧κ1 mb = .own i∧w1.heap[mb]? = some (.map eB clock)∧J5 eB es.length∧
      (∀(j:Nat) (x:DV×DV) (e:MapEntry),es[j]? = some x→eB[j]? = some e→DR κ1 w1.heap x.1 e.key∧DR κ1 w1.heap x.2 e.val∧e.born < clock)∧
      w2 = { w1 with heap:=w1.heap.push (.mapIter (some mb) clock #[] clock) }∧a'=a1.put (some g.it) (.pointer (some ⟨w1.heap.size,0,none⟩))) (List.range pQ.size) a0 w:=by
      rw [hlen];refine h4 F (fun a1 w1 κ1 φ1 g1 g2 g3=>?_);have ho:=g1.objs i;have hes' : (mR n R1 O1).O i=some (.map es):=hes;rw [hes'] at ho;obtain ⟨mb,eB,clock,k1,k2,k3,k4,k5⟩:=ho
      have hv:a1.eval (.tmp mx) = .map (some mb):=by
       have:=g1.regs mx
       have e:(mR n R1 O1).R mx = .map i:=hmx;rw [e] at this
       show a1.tmps.getD mx undef=_
       generalize a1.tmps.getD mx undef=v at this;cases this with
       | map hφ=>rw [k1] at hφ;injection hφ with hφ;rw [hφ]
      refine jW hoR gR dR (v:=.pointer (some ⟨w1.heap.size,0,none⟩)) (w':={ w1 with heap:=w1.heap.push (.mapIter (some mb) clock #[] clock) }) ?_ ⟨rfl,κ1,φ1,w1,a1,mb,eB,clock,g1,g2,g3,k1,k2,k3,k4,k5,rfl,rfl⟩;have hg:(getObj mb).run P w1 = .ok (.map eB clock) w1:=by simp [getObj,Sem.run,k3]
      simp only [execOp,hR,hv,Instr.range,Sem.run_bind,aL hu,Result.andThen_ok,Sem.run_pure,hg];rfl
     obtain ⟨e,a2,w2,⟨rfl,κ1,φ1,w1,a1,mb,eB,clock,f1,f2,f3,k1,k2,k3,k4,k5,rfl,rfl⟩,harr⟩:=wp_region (id:=r6) aae fr (.code (.block c.N9 (.loop (c.body g)))::K.map It.item) cs;have Xx:=hc.lt;have hit:g.it < n:=Xx g.it (by simp [kP.ws]);have hlt:mb < w1.heap.size:=jv k3
     have hκb:κ1 w1.heap.size = .kQ:=by
      cases hx:κ1 w1.heap.size with
      | kQ=>rfl
      | dN=>have:=f1.bnd.lt w1.heap.size (by rw [hx];simp);omega
      | own j=>have:=f1.bnd.lt w1.heap.size (by rw [hx];simp);omega
     have YU:=AY g.ws R1 (fun d hd=>Nat.lt_of_lt_of_le (Xx d hd) hn)
     have F2:aA κ1 φ1 w1 (mR n (forget g.ws R1) O1) a1:=by
      refine aA.weak f1 (R':=(forget g.ws R1).fn) (fun t v hr=>?_);rw [YU];by_cases ht:t∈g.ws
      ·simp only [ht,if_true];exact .bot _
      ·simp only [ht,if_false];exact hr
     have F3:=(F2.Qc (w':={ w1 with heap:=w1.heap.push (.mapIter (some mb) clock #[] clock) }) rfl).lS (d:=g.it) hit (by show (forget g.ws R1).fn g.it = .bot;rw [YU];simp [kP.ws]) (.pointer (some ⟨w1.heap.size,0,none⟩))
     have hfr2:Fr κ w κ1 { w1 with heap:=w1.heap.push (.mapIter (some mb) clock #[] clock) }:=by
      refine ⟨by simp only [Array.size_push];have:=f2.size;omega,fun x hx=>?_,fun x hx ho=>?_,fun x cc ty fz hx=>?_,f2.os,f2.out⟩
      ·obtain ⟨b1,b2⟩:=f2.dN x hx;exact ⟨b1,(dM (f1.bnd.lt x (by rw [b1];simp))).trans b2⟩
      ·obtain ⟨b1,b2⟩:=f2.kQ x hx ho;exact ⟨b1,(dM (Nat.lt_of_lt_of_le hx f2.size)).trans b2⟩
      ·obtain ⟨c',uz,b1,b2⟩:=f2.wQ x cc ty fz hx;exact ⟨c',uz,(dM (jv b1)).trans b1,b2⟩
     have hborn:∀x∈eB.toList,x.born < clock:=fun x hx=>by
      obtain ⟨j,hj⟩:=List.mem_iff_getElem?.1 hx;have hj' : eB[j]? = some x:=by simpa using hj
      have hjl:j < es.length:=by have:=(Array.getElem?_eq_some_iff.1 hj').1;have:=k4.1;omega
      exact (k5 j es[j] x (by simp [hjl]) hj').2.2
     have hkeys:∀x∈eB.toList,∃k:Int,x.key = .int .i64 k∧k≤p:=fun x hx=>by
      obtain ⟨j,hj⟩:=List.mem_iff_getElem?.1 hx;have hj' : eB[j]? = some x:=by simpa using hj
      have hjl:j < es.length:=by have:=(Array.getElem?_eq_some_iff.1 hj').1;have:=k4.1;omega
      have hd:=(k5 j es[j] x (by simp [hjl]) hj').1;have hle:=List.all_eq_true.1 hk es[j] (by simp);split at hle
      ·rename_i kq hq;rw [hq] at hd;generalize x.key=kv at hd ⊢;cases hd;exact ⟨kq,rfl,by simpa using hle⟩
      ·cases hle
     have Dh:=hc.pgw
     obtain ⟨e',a',w',κ',φ',s',q1,q2,q3,q4,q5,q6⟩:=Qb (P:=P) (m:=m) hc (K:=K) (s:=mR n (forget g.ws R1) O1) rfl (fun d hd _=>by show (forget g.ws R1).fn d = .bot;rw [YU];simp [hd]) (p:=p)
      (by show (forget g.ws R1).fn g.pg=_;rw [YU];simp [Dh,hpg]) W (κ0:=κ) (w0:=w) (φ0:=φ) (O0:=O.fn) (b:=w1.heap.size) (mb:=mb) (since:=clock) (clock:=clock) (eB:=eB) f2.size hborn k4.2 hkeys (by omega)
      _ κ1 φ1 _ _ #[] clock rfl F3 hfr2 (f3.m m) hκb (aW _ _) (Nat.le_refl _) (by show (w1.heap.push _)[mb]? = _;rw [dM hlt];exact k3) (Nat.le_refl _) (iZ (by rw [f1.n];rfl) hit) fr cs
     refine ⟨e',a',w',κ',φ',s',q1,q2,q3,q4,q5,q6.of_steps ?_⟩;exact Steps.trans (.one step_seq) (Steps.trans harr (Steps.trans (.one step_block) (.one step_loop)))
  ·cases h3
 ·cases h3
structure qI where
 r6:Nat
 pQ:Array Oper
 pre:List Oper
 mx:Nat
 t:TypeId
 c:sH
 g:kP
structure vG (P:Program) (n:Nat) (q:qI):Prop where
 h6:∃oR,q.pQ.toList=q.pre++[oR]∧oR.op = .range q.t (.tmp q.mx)∧oR.dst=some q.g.it∧oR.guard=none
 hg:dF n q.pQ=true
 hu:∃k v,P.underlying q.t=some (.map k v)
 hc:RgOk q.c q.g n
noncomputable def Q0 (cf:dX) (q:qI):List (Nat×VK)→VK→VK:=fun _ kk R O nx=>
 F7 cf (fun _=>false) noF q.pQ q.pre R O nx (fun R1 O1 zA=>match R1.fn q.mx,R1.fn q.g.pg with
  | .map i,.d (.int .i64 p)=>match O1.fn i with
    | some (.map es)=>bif GD p es then kk (forget q.g.ws R1) O1 zA else none
    | _=>none
  | _,_=>none)
theorem GH {cf:dX} (hcf:jE P cf) {n m:Nat} (hn:n≤512) {q:qI} (hq:vG P n q) {fin:List (Nat×List RV)→VK} {K:List It} {e:List (Nat×VK)} {kk:VK} (hK:Good P n m fin K kk) :
 Good P n m fin (.code (.seq (.region q.r6 q.pQ false) (.block q.c.N9 (.loop (q.c.body q.g))))::K) (Q0 cf q e kk):=by
 intro R O nx a h;obtain ⟨oR,h1,h2,h3,h4⟩:=hq.h6;obtain ⟨k,v,hu⟩:=hq.hu;exact Xw hcf hn h1 hq.hg h2 h3 h4 hu hq.hc hK h
def pieces:Code→List (Code×Code)
 | .seq x y=>(x,y)::(pieces x++pieces y)
 | .cond _ x y=>pieces x++pieces y
 | .block _ x=>pieces x
 | .loop x=>pieces x
 | .scope x=>pieces x
 | _=>[]
theorem Sub.pieces {b c:Code} (h:Sub b c):∀z∈Am.pieces c,z∈Am.pieces b:=by
 induction h with
 | refl=>exact fun z hz=>hz
 | Xt _ ih=>exact fun z hz=>ih z (by simp only [Am.pieces,List.mem_cons,List.mem_append];exact .inr (.inl hz))
 | Xu _ ih=>exact fun z hz=>ih z (by simp only [Am.pieces,List.mem_cons,List.mem_append];exact .inr (.inr hz))
 | QY _ ih=>exact fun z hz=>ih z (by simp only [Am.pieces,List.mem_append];exact .inl hz)
 | QZ _ ih=>exact fun z hz=>ih z (by simp only [Am.pieces,List.mem_append];exact .inr hz)
 | block _ ih=>exact fun z hz=>ih z hz
 | loop _ ih=>exact fun z hz=>ih z hz
 | scope _ ih=>exact fun z hz=>ih z hz
def EO (r:Nat):Code→Bool
 | .region i _ _=>Nat.beq i r
 | _=>false
noncomputable def GI (cf:dX) (q:qI):zG:=fun x _=>bif EO q.r6 x then some (Q0 cf q) else none
theorem JI {cf:dX} (hcf:jE P cf) {n m:Nat} (hn:n≤512) {q:qI} (hq:vG P n q) {fin:List (Nat×List RV)→VK} {body:Code}
 (hp:(pieces body).filter (fun z=>EO q.r6 z.1)=[(.region q.r6 q.pQ false,.block q.c.N9 (.loop (q.c.body q.g)))]):vC P n m fin body (GI cf q):=by
 intro x y f hf hS k e kk hk _;unfold GI at hf;cases hr:EO q.r6 x with
 | false=>rw [hr] at hf;cases hf
 | true=>
   rw [hr] at hf;simp only [cond_true,Option.some.injEq] at hf;subst hf
   have hm:(x,y)∈(pieces body).filter (fun z=>EO q.r6 z.1):=by
    rw [List.mem_filter];exact ⟨hS.pieces (x,y) (by simp [Am.pieces]),hr⟩
   rw [hp] at hm;simp only [List.mem_cons,List.mem_nil_iff,or_false,Prod.mk.injEq] at hm;obtain ⟨rfl,rfl⟩:=hm;exact GH hcf hn hq hk
end Go.Am
namespace Go.Proofs.YtjoefbioobdinaaGreatDoor
open Go.RowKit Am
set_option maxRecDepth 1000000
noncomputable def yX:Code:=((Tryz.prog.funcs[351]?).bind (·.body)).getD .skip
def bg (r:Nat):Code→Option (Array Oper)
 | .region i ops _=>bif Nat.beq i r then some ops else none
 | .seq x y=>match bg r x with
   | some a=>some a
   | none=>bg r y
 | .cond _ x y=>match bg r x with
   | some a=>some a
   | none=>bg r y
 | .block _ x=>bg r x
 | .loop x=>bg r x
 | .scope x=>bg r x
 | _=>none
def pR (t:Nat):Code→Option Code
 | .cond (.tmp u) x y=>bif Nat.beq u t then some x else match pR t x with
   | some a=>some a
   | none=>pR t y
 | .seq x y=>match pR t x with
   | some a=>some a
   | none=>pR t y
 | .block _ x=>pR t x
 | .loop x=>pR t x
 | .scope x=>pR t x
 | _=>none
noncomputable def EP (r:Nat):Array Oper:=(bg r yX).getD #[]
noncomputable def qQ (r k:Nat):Oper:=((EP r)[k]?).getD default
noncomputable def rzC:sH:=⟨7,EP 7,0,1,8,EP 8,9,EP 9,(pR 33 yX).getD .skip⟩
def rzG:kP:=⟨26,27,28,29,30,6,31,32,33,1⟩
noncomputable def Ti:qI:=⟨6,EP 6,[qQ 6 0,qQ 6 1,qQ 6 2,qQ 6 3,qQ 6 4,qQ 6 5,qQ 6 6],25,413,rzC,rzG⟩
theorem Xy:vG Tryz.prog 71 Ti where
 h6:=⟨qQ 6 7,by kernel_rfl,by kernel_rfl,by kernel_rfl,by kernel_rfl⟩
 hg:=by kernel_rfl
 hu:=⟨3,9,by kernel_rfl⟩
 hc:=
  { o7:=⟨qQ 7 0,qQ 7 1,by kernel_rfl,by kernel_rfl,by kernel_rfl,by kernel_rfl,by kernel_rfl,by kernel_rfl,by kernel_rfl⟩
    o8:=⟨qQ 8 0,qQ 8 1,qQ 8 2,by kernel_rfl,by kernel_rfl,by kernel_rfl,by kernel_rfl,by kernel_rfl,by kernel_rfl,by kernel_rfl,by kernel_rfl,by kernel_rfl,by kernel_rfl⟩
    o9:=⟨qQ 9 0,qQ 9 1,qQ 9 2,3,3,by kernel_rfl,by kernel_rfl,by kernel_rfl,by kernel_rfl,by kernel_rfl,by kernel_rfl,by kernel_rfl,by kernel_rfl,by kernel_rfl,by kernel_rfl⟩
    lt:=by decide
    pgw:=by decide
    nodup:=by decide }
theorem Nh:(pieces yX).filter (fun z=>EO 6 z.1)=[(.region Ti.r6 Ti.pQ false,.block Ti.c.N9 (.loop (Ti.c.body Ti.g)))]:=by kernel_rfl
theorem Qd:(Tryz.prog.funcs[351]?).map (fun f=>Nat.beq f.ntmps 71)=some true:=by kernel_rfl
noncomputable def fnT:Nat→Option Func:=fun g=>Tryz.prog.funcs[g]?
theorem iC:Tryz.prog.follows .mixedOrders=true:=by kernel_rfl
end Go.Proofs.YtjoefbioobdinaaGreatDoor
namespace Go.Am
set_option linter.unusedSectionVars false
variable {P:Program} [Gl]
structure Row where
 g:Nat
 args:List RV
 objs:List av
 r:RV
 os:List av
noncomputable def hx (n x:Nat):List UInt8:=
 Nat.rec (motive:=fun _=>Nat→List UInt8) (fun _=>[]) (fun _ ih x=>UInt8.ofNat (Nat.mod x 256)::Nat.rec (motive:=fun _=>List UInt8) (ih 0) (fun m _=>ih (Nat.succ m)) (Nat.div x 256)) n x
def Row.C (P:Program) (q:Row):Prop:=Go.Am.C P q.g q.args q.objs (fun r o=>r=q.r∧o=q.os)
noncomputable def aO (base:uD):List Row→uD:=fun l=>List.rec (motive:=fun _=>uD) base (fun q _ ih f a o=>
 Bool.rec (motive:=fun _=>Option (RV×List av×List Bool)) (ih f a o)
  (Bool.rec (motive:=fun _=>Option (RV×List av×List Bool)) (ih f a o) (some (q.r,q.os,[])) (vT (uO 8) q.args a&&vT FH q.objs o)) (Nat.beq q.g f)) l
theorem aD {base:uD} {l:List Row} {q:Row} (hl:aZ P (aO base l)) (hq:q.C P):aZ P (aO base (q::l)):=by
 intro f a o r o' c h hc
 have h:Bool.rec (motive:=fun _=>Option (RV×List av×List Bool)) (aO base l f a o)
  (Bool.rec (motive:=fun _=>Option (RV×List av×List Bool)) (aO base l f a o) (some (q.r,q.os,[])) (vT (uO 8) q.args a&&vT FH q.objs o)) (Nat.beq q.g f)=some (r,o',c):=h
 cases h1:Nat.beq q.g f with
 | false=>rw [h1] at h;exact hl f a o r o' c h hc
 | true=>
   rw [h1] at h;cases h2:(vT (uO 8) q.args a&&vT FH q.objs o) with
   | false=>rw [h2] at h;exact hl f a o r o' c h hc
   | true=>
     rw [h2] at h;simp only [Option.some.injEq,Prod.mk.injEq] at h;obtain ⟨rfl,rfl,rfl⟩:=h;simp only [Bool.and_eq_true] at h2;have e1:=cB h1;have e2:=gM (qj 8) _ _ h2.1;have e3:=gM uP _ _ h2.2;subst e1;subst e2;subst e3;exact hq
def Ni (x:Option (RV×List av×List Bool)) (r:RV) (os:List av):Bool:=
 match x with
 | some (r2,o2,[])=>uO 8 r2 r&&vT FH o2 os
 | _=>false
theorem GJ {x:Option (RV×List av×List Bool)} {r:RV} {os:List av} (h:Ni x r os=true):x=some (r,os,[]):=by
 unfold Ni at h;split at h
 ·simp only [Bool.and_eq_true] at h;rw [qj 8 _ _ h.1,gM uP _ _ h.2]
 ·cases h
def Nj (mask g:Nat):Bool:=Nat.beq (Nat.mod (Nat.shiftRight mask g) 2) 1
def di (n:Nat):RV:=.d (.int .i64 (Int.ofNat n))
def ds (s:List UInt8):RV:=.d (.str s)
def db (b:Bool):RV:=.d (.bool b)
def vi (n:Nat):DV:=.int .i64 (Int.ofNat n)
end Go.Am
namespace Go.Proofs.YtjoefbioobdinaaGreatDoor
open Go.RowKit Am
set_option maxRecDepth 1000000
noncomputable def cfK (K:uD):dX:={ E:=Env.of Tryz.prog,K:=K,dD:=fun _=>true,eH:=fun f=>eH Tryz.prog f,vm:=true,diff:=true }
noncomputable def GK (K:uD):Nat→zG:=fun g=>bif Nat.beq g 351 then GI (cfK K) Ti else fun _ _=>none
theorem Nk {K:uD} (h:aZ Tryz.prog K):jE Tryz.prog (cfK K):=⟨rfl,h,fun _ h=>h⟩
theorem JJ {K:uD} (h:aZ Tryz.prog K):∀g f body,fnT g=some f→f.body=some body→∀fin,vC Tryz.prog f.ntmps 1048576 fin body (GK K g):=by
 intro g f body hf hb fin;unfold GK;cases hg:Nat.beq g 351 with
 | false=>intro x y f hx;cases hx
 | true=>
   have:=cB hg;subst this
   have hf' : Tryz.prog.funcs[351]? = some f:=hf
   have hn:f.ntmps=71:=by
    have:=Qd
    rw [hf'] at this;exact cB (by simpa using this)
   have hbd:body=yX:=by
    unfold yX;rw [hf'];simp [hb]
   subst hbd;rw [hn];exact JI (Nk h) (by decide) Xy Nh
noncomputable def bX (K:uD) (mask:Nat) (q:Row):Bool:=Ni (Jm (Cv (Gz (GK K) fnT (cfK K) (Nj mask) 100000 60)) q.g q.args q.objs) q.r q.os
theorem bZ {K:uD} (hK:aZ Tryz.prog K) {mask:Nat} {q:Row} (h:bX K mask q=true):q.C Tryz.prog:=
 GA (Nk hK) iC (JJ hK) (fun _ _ h=>h) (Nj mask) 100000 60 (GJ h)
end Go.Proofs.YtjoefbioobdinaaGreatDoor
namespace Go.Proofs.YtjoefbioobdinaaGreatDoor
open Go.RowKit Am
set_option maxRecDepth 100000
theorem uj:(Tryz.prog.info? 135).map (fun i=>decide (i.size≠0))=some true:=by kernel_rfl
theorem CX:liesAt Tryz.prog Tryz.prog.depth 135 (2 / Tryz.prog.cellsOf 135) 0 135 1=true:=by kernel_rfl
theorem Nl:liesAt Tryz.prog Tryz.prog.depth 653 (2 / Tryz.prog.cellsOf 653) 0 135 1=true:=by kernel_rfl
def zH (T:Nat):Bool:=Nat.beq T 135||Nat.beq T 653
theorem Tj {T:Nat} (h:zH T=true):liesAt Tryz.prog Tryz.prog.depth T (2 / Tryz.prog.cellsOf T) 0 135 1=true:=by
 simp only [zH,Bool.or_eq_true] at h;rcases h with h | h
 ·rw [cB h];exact CX
 ·rw [cB h];exact Nl
theorem CY:Tryz.prog.cellsOf 5=1:=by kernel_rfl
set_option maxHeartbeats 1000000 in
theorem Gp (b:Nat) (w:World) (h0:w.cell? ⟨b,0,none⟩=some (.pointer (some ⟨b,0,none⟩))) :
 Calls Tryz.prog 144 #[.pointer (some ⟨b,0,none⟩)] w fun e w'=>e = .returned (.tuple #[])∧w'=w:=by
 obtain ⟨j,hj,_⟩:=Option.map_eq_some_iff.1 uj
 go_enter Tryz.func144,Tryz.ntmps144
 go_wp2
 rw [Lib.run_neq_ptr_same w _ Tryz.underlying133 hj]
 go_wp2
 go_end0
 exact ⟨rfl,rfl⟩
set_option maxHeartbeats 1000000 in
theorem CZ {T:Nat} (hT:zH T=true) (b:Nat) (w:World) (h0:w.cell? ⟨b,0,none⟩=some (.pointer none)) (hsh:w.shape? b=some (T,2)) (hfz:w.frozen? ⟨b,0,none⟩=false) :
 Calls Tryz.prog 144 #[.pointer (some ⟨b,0,none⟩)] w fun e w'=>e = .returned (.tuple #[])∧w'=w.setCell ⟨b,0,none⟩ (.pointer (some ⟨b,0,none⟩)):=by
 obtain ⟨j,hj,hjs⟩:=Option.map_eq_some_iff.1 uj
 go_enter Tryz.func144,Tryz.ntmps144
 go_wp2
 rw [Lib.run_to_unsafe w ⟨b,0,none⟩ Tryz.underlying133 Tryz.underlying302 hj (by simpa using hjs) hsh (Nat.zero_lt_succ 1)];simp only [Result.andThen];rw [Oper.upon_value]
 go_wp2
 rw [run_callFunc_extern Tryz.func204 (by kernel_rfl) (by kernel_rfl) (by kernel_rfl) (e:=Extern.AbiNoEscape.same) (by kernel_rfl)];rw [Lib.run_noEscape];simp only [Result.andThen];rw [Oper.upon_value]
 go_wp2
 rw [Lib.run_from_unsafe w ⟨b,0,none⟩ Tryz.underlying302 Tryz.underlying133 hj hsh (Tj hT)];simp only [Result.andThen];rw [Oper.upon_value]
 go_wp2
 go_end0
 exact ⟨rfl,rfl⟩
set_option maxHeartbeats 2000000 in
theorem C8 {T:Nat} (b g cap n0:Nat) (l:List UInt8) (p:Value) (w:World) (Q:World→Prop) (fz:Nat×Nat) (cur:Array Value) (hne:l≠[]) (hcap:l.length≤cap) (h63:l.length≤9223372036854775807)
 (hb:w.heap[b]? = some (.cells #[p,.slice (some ⟨g,0,none⟩) l.length cap] T (0,0))) (hg:w.heap[g]? = some (.cells cur 5 fz)) (hsz:cur.size=n0) (hn0:l.length≤n0)
 (hcell:∀(j:Nat) (y:UInt8),l[j]? = some y→w.cell? ((⟨g,0,none⟩:Addr).add j)=some (.int .u8 y.toNat)) (hQ:Q (w.drew.freeze ⟨g,0,none⟩ l.length)) :
 Calls Tryz.prog 90 #[.pointer (some ⟨b,0,none⟩)] w fun e w'=>e = .returned (.string ⟨l.toArray⟩)∧Q w':=by
 have hpos:0 < l.length:=List.length_pos_iff.2 hne
 have c1:w.drew.cell? ⟨b,1,none⟩=some (.slice (some ⟨g,0,none⟩) l.length cap):=by
  have:w.drew.heap[b]? = some (.cells #[p,.slice (some ⟨g,0,none⟩) l.length cap] T (0,0)):=hb
  rw [Lib.cell_of_heap this];rfl
 have hSD:(Builtin.unsafeSliceData_ #[130] 212 #[.slice (some ⟨g,0,none⟩) l.length cap]).run Tryz.prog w.drew = .ok (.pointer (some ⟨g,0,none⟩)) w.drew:=
  Lib.run_unsafeSliceData_row _ _ _ _ _ _ (by omega)
 have hUS:(Builtin.unsafeString_ #[212,3] 9 #[.pointer (some ⟨g,0,none⟩),.int .i64 l.length]).run Tryz.prog w.drew = .ok (.string ⟨l.toArray⟩) (w.drew.freeze ⟨g,0,none⟩ l.length):=
  Lib.run_unsafeString_row w.drew _ _ _ 5 Tryz.underlying212 CY g cur.size (by have hg' : w.drew.heap[g]? = some (.cells cur 5 fz):=hg;simp [World.shape?,hg']) l hne (by omega) h63 hcell
 have HQ:=Lib.hid hQ;clear hQ hcell hg hb hsz hn0 hcap h63 hne hpos
 go_enter Tryz.func90,Tryz.ntmps90
 go_wp2
 go_region
 all_goals (go_wp2;go_ret;exact ⟨rfl,HQ.out⟩)
set_option maxHeartbeats 2000000 in
theorem C9 {T:Nat} (b:Nat) (p:Value) (w:World) (Q:World→Prop) (hb:w.heap[b]? = some (.cells #[p,.slice none 0 0] T (0,0))) (hQ:Q w.drew) :
 Calls Tryz.prog 90 #[.pointer (some ⟨b,0,none⟩)] w fun e w'=>e = .returned (.string ⟨#[]⟩)∧Q w':=by
 have hUS:∀W:World,(Builtin.unsafeString_ #[212,3] 9 #[.pointer none,.int .i64 0]).run Tryz.prog W = .ok (.string .empty) W:=fun W=>Lib.run_unsafeString_none W _ _ _ none
 have c1:w.drew.cell? ⟨b,1,none⟩=some (.slice none 0 0):=by
  have:w.drew.heap[b]? = some (.cells #[p,.slice none 0 0] T (0,0)):=hb
  rw [Lib.cell_of_heap this];rfl
 have hSD:(Builtin.unsafeSliceData_ #[130] 212 #[.slice none 0 0]).run Tryz.prog w.drew = .ok (.pointer none) w.drew:=rfl;have HQ:=Lib.hid hQ;clear hb hQ
 go_enter Tryz.func90,Tryz.ntmps90
 go_wp2
 go_region
 all_goals (go_wp2;go_ret;exact ⟨rfl,HQ.out⟩)
theorem jB {c:Array Value} (h:c.size=2):∃x y,c = #[x,y]:=by
 refine ⟨c[0],c[1],?_⟩;apply Array.ext
 ·simpa using h
 ·intro i h1 h2
  have:i=0∨i=1:=by simp at h2;omega
  rcases this with rfl | rfl<;>rfl
theorem yQ (p q:av) (r:List av):bF (aV (p::r)) 0 (some q)=aV (q::r):=by
 funext i;cases i with
 | zero=>simp [bF,aV]
 | succ i=>simp [bF,aV]
theorem yR (p q q' : av) (r:List av):bF (aV (p::q::r)) 1 (some q')=aV (p::q'::r):=by
 funext i
 match i with
 | 0=>simp [bF,aV]
 | 1=>simp [bF,aV]
 | i+2=>simp [bF,aV]
theorem Gq {T:Nat} (hT:zH T=true) (x y:RV) (r:List av) (hx:x = .d .aG∨x = .ptr 0 0):C Tryz.prog 144 [.ptr 0 0] (.box T [x,y]::r) (fun v o=>v = .d (.bn [])∧o = .box T [.ptr 0 0,y]::r):=by
 intro κ φ w vs h1 h2 h3 h4;have hs:vs.size=1:=by simpa using h3
 have e1:vs[0]? = some vs[0]:=by simp [show 0 < vs.size by omega]
 have r0:=h4 0 _ _ rfl e1
 have hvs:vs = #[vs[0]]:=by
  apply Array.ext
  ·simpa using hs
  ·intro i hi hi2;simp at hi2;subst hi2;rfl
 rw [hvs];generalize vs[0]=v0 at r0;clear e1 hvs;cases r0 with
 | ptr hφ=>
 rename_i b;have ho:=h1 0;have et:aV (av.box T [x,y]::r) 0=some (.box T [x,y]):=rfl;rw [et] at ho;obtain ⟨b',c,g1,g2,g3,g4,g5,g6⟩:=ho;rw [g1] at hφ;injection hφ with hφ;subst hφ;obtain ⟨c0,c1,rfl⟩:=jB (by simpa using g4);have q0:=g6 0 x c0 rfl rfl;have q1:=g6 1 y c1 rfl rfl;have F:=ko h1 h2;rcases hx with rfl | rfl
 ·cases q0 with
  | d hr=>
  cases hr;refine (CZ hT b' w (by rw [Lib.cell_of_heap g3];rfl) (by simp [World.shape?,g3]) (Lib.frozen_of_heap g3 0)).mono ?_
  rintro e w' ⟨rfl,rfl⟩
  rw [lX g3]
  obtain ⟨p1,p2,p3⟩:=F.write (i:=0) (p:=.box T [.ptr 0 0,y]) (o:=.cells #[.pointer (some ⟨b',0,none⟩),c1] T (0,0)) g2 g1
   (fun c ty fz hh=>by rw [g3] at hh;injection hh with hh;injection hh with a1 a2 a3;subst a1;subst a2;exact ⟨_,_,rfl,rfl⟩) (fun n hn=>by simp [av.dB] at hn)
   (fun M=>⟨b',_,g1,g2,dL g3,rfl,fun v hv=>by
     simp at hv;rcases hv with rfl | rfl
     ·rfl
     ·exact g5 _ (by simp),fun j x v hx hv=>by
     match j,hx,hv with
     | 0,hx,hv=>simp at hx hv;subst hx;subst hv;exact .ptr g1
     | 1,hx,hv=>simp at hx hv;subst hx;subst hv;exact q1.mono M
     | j+2,hx,hv=>simp at hx⟩)
  have JF:bF (aV (av.box T [.d .aG,y]::r)) 0 (some (.box T [.ptr 0 0,y]))=aV (.box T [.ptr 0 0,y]::r):=yQ _ _ _;simp only [JF] at p1 p2;exact ⟨_,_,_,κ,φ,rfl,⟨rfl,rfl⟩,.d (.bn rfl (by simp)),p1.objs,p1.bnd,by simp,p3,p2.kp⟩
 ·cases q0 with
  | ptr hp=>
  rename_i b2
  have:b2=b':=by rw [g1] at hp;injection hp with hp;exact hp.symm
  subst this;refine (Gp b2 w (by rw [Lib.cell_of_heap g3];rfl)).mono ?_
  rintro e w' ⟨rfl,rfl⟩
  exact ⟨_,_,_,κ,φ,rfl,⟨rfl,rfl⟩,.d (.bn rfl (by simp)),h1,h2,by simp,Fr.refl _ _,Kp.refl _ _⟩
def EY:DV→Bool
 | .int .u8 n=>decide (0≤n∧n < 256)
 | _=>false
theorem pO {x:DV} (h:EY x=true):x = .int .u8 (x.byte.toNat:Int):=by
 unfold EY at h;split at h
 ·rename_i n;simp only [decide_eq_true_eq] at h;simp only [DV.byte,DV.int.injEq,true_and]
  have:n.toNat < 256:=by omega
  rw [UInt8.toNat_ofNat_of_lt' (by simpa using this)];omega
 ·cases h
theorem EI {x:DV} (h:EY x=true):x.cells=[x]:=by rw [pO h];rfl
def Qe:RV→Bool
 | .d x=>EY x
 | _=>false
def wu:RV→UInt8
 | .d x=>x.byte
 | _=>0
theorem JK {x:RV} (h:Qe x=true):x = .d (.int .u8 ((wu x).toNat:Int)):=by
 unfold Qe at h;split at h
 ·rename_i y;simp only [wu];rw [←pO h]
 ·cases h
theorem MJ {T:Nat} (p:RV) (len:Nat) (cap:Option Nat) (cs:List RV) (r:List av) (hb:(cs.take len).all Qe=true) (hlen:len≤cs.length) (hne:0 < len) (hbig:len≤1099511627776):C Tryz.prog 90 [.ptr 0 0] (.box T [p,.sl 1 1 0 len cap] :: .bW 5 cs::r)
 (fun v o=>v = .d (.str ((cs.take len).map wu))∧o = .box T [p,.sl 1 1 0 len cap] :: .gone::r):=by
 intro κ φ w vs h1 h2 h3 h4;obtain ⟨v0,rfl,r0⟩:=arg1 h3 h4;cases r0 with
 | ptr hφ=>
 rename_i b;have ho:=h1 0;have et:aV (av.box T [p,.sl 1 1 0 len cap] :: .bW 5 cs::r) 0=some (.box T [p,.sl 1 1 0 len cap]):=rfl;rw [et] at ho;obtain ⟨b',c,g1,g2,g3,g4,g5,g6⟩:=ho;rw [g1] at hφ;injection hφ with hφ;subst hφ;obtain ⟨c0,c1,rfl⟩:=jB (by simpa using g4);have q1:=g6 1 (.sl 1 1 0 len cap) c1 rfl rfl;have ho1:=h1 1;have YS:aV (av.box T [p,.sl 1 1 0 len cap] :: .bW 5 cs::r) 1=some (.bW 5 cs):=rfl;rw [YS] at ho1;obtain ⟨g,cur,fz,k1,k2,k3,k4,k5⟩:=ho1;cases q1 with
 | sl hp hb0 ho' hs hl hcc hnn=>
   rename_i g' o' eY c' ty' uz
   have:g'=g:=by rw [k1] at hp;injection hp with hp;exact hp.symm
   subst this;have hoo:o'=0:=by rcases ho' with h | h<;>omega
   subst hoo;rw [k3] at hb0;injection hb0 with hb0;injection hb0 with a1 a2 a3;subst a1;subst a2;subst a3;have hlm:((cs.take len).map wu).length=len:=by simp;omega
   have F:=ko h1 h2;obtain ⟨k51,ZQ⟩:=k5
   have hcells:∀(j:Nat) (y:UInt8),((cs.take len).map wu)[j]? = some y→w.cell? ((⟨g',0,none⟩:Addr).add j)=some (.int .u8 y.toNat):=by
    intro j y hy;have hj:j < len:=by have:=(List.getElem?_eq_some_iff.1 hy).1;omega
    have hx:cs[j]? = some cs[j]:=by simp [show j < cs.length by omega]
    have hxt:(cs.take len)[j]? = some cs[j]:=by rw [List.getElem?_take,if_pos hj];exact hx
    have hB:=List.all_eq_true.1 hb cs[j] (List.mem_of_getElem? hxt);have hcj:cur[j]? = some cur[j]:=by simp [show j < cur.size by omega]
    have hd:=(ZQ j cs[j] cur[j] hx (by rw [Nat.zero_add];exact hcj)).1;rw [JK hB] at hd;rw [gW,Am.p8 k3,Nat.zero_add,hcj];have V4:y=wu cs[j]:=by rw [List.getElem?_map,hxt] at hy;simpa using hy.symm
    subst V4;generalize cur[j]=cv at hd;cases hd with
    | d hd=>cases hd;rfl
   have hw' : ∀(k:Nat),k≠g'→(w.drew.freeze ⟨g',0,none⟩ len).heap[k]? = w.heap[k]?:=by
    intro k hk;unfold World.freeze;split
    ·rfl
    ·simp only [Array.getElem?_modify];rw [if_neg (fun e=>hk e.symm)];rfl
   have hwg:∃Qz,(w.drew.freeze ⟨g',0,none⟩ len).heap[g']? = some (.cells cur 5 Qz):=by
    have Xb : w.drew.heap[g']? = some (.cells cur 5 fz):=k3;unfold World.freeze;split
    ·exact ⟨_,Xb⟩
    ·simp only [Array.getElem?_modify,Xb];simp
   have hsz:(w.drew.freeze ⟨g',0,none⟩ len).heap.size=w.heap.size:=by unfold World.freeze;split<;>simp
   have hos:(w.drew.freeze ⟨g',0,none⟩ len).os=w.os∧(w.drew.freeze ⟨g',0,none⟩ len).output=w.output:=by unfold World.freeze;split<;>exact ⟨rfl,rfl⟩
   refine (C8 b' g' eY cur.size ((cs.take len).map wu) c0 w (fun w'=>w'=w.drew.freeze ⟨g',0,none⟩ len) fz cur (by intro e;rw [e] at hlm;simp at hlm;omega) (by rw [hlm];exact hl) (by rw [hlm];omega) (by rw [hlm];exact g3) k3 rfl (by rw [hlm];omega) hcells (by rw [hlm])).mono ?_
   rintro e w' ⟨rfl,rfl⟩
   obtain ⟨Qz,hwg⟩:=hwg
   obtain ⟨p1,p2,p3⟩:=F.wG (i:=1) (p:=.gone) (κ':=κ) (φ':=φ) (w':=w.drew.freeze ⟨g',0,none⟩ len) (by omega) (fun _ h=>h) (fun _ _ _ _ h=>h) (fun _ _ h=>h)
    (fun k _ hk _=>hw' k (fun e=>by subst e;exact hk k2)) (fun _ _=>rfl) (fun _=>rfl)
    (fun k c ty fz hk=>by
      by_cases e:k=g'
      ·subst e;rw [k3] at hk;injection hk with hk;injection hk with a1 a2 a3;subst a1;subst a2;exact ⟨_,_,hwg,rfl⟩
      ·exact ⟨c,fz,by rw [hw' k e];exact hk,rfl⟩) (fun _ n hn=>by simp [av.dB] at hn) (fun k hk=>by rw [hsz];exact h2.lt k hk) (fun _=>trivial) hos
   have JF:bF (aV (av.box T [p,.sl 1 1 0 len cap] :: .bW 5 cs::r)) 1 (some .gone)=aV (.box T [p,.sl 1 1 0 len cap] :: .gone::r):=yR _ _ _ _;simp only [JF] at p1 p2;exact ⟨_,_,_,κ,φ,rfl,⟨rfl,rfl⟩,.d (.str _),p1.objs,p1.bnd,by simp,p3,p2.kp⟩
theorem Gr {T:Nat} (p:RV) (r:List av):C Tryz.prog 90 [.ptr 0 0] (.box T [p,.d (.aC 0 [] true)]::r)
 (fun v o=>v = .d (.str [])∧o = .box T [p,.d (.aC 0 [] true)]::r):=by
 intro κ φ w vs h1 h2 h3 h4;have hs:vs.size=1:=by simpa using h3
 have e1:vs[0]? = some vs[0]:=by simp [show 0 < vs.size by omega]
 have r0:=h4 0 _ _ rfl e1
 have hvs:vs = #[vs[0]]:=by
  apply Array.ext
  ·simpa using hs
  ·intro i hi hi2;simp at hi2;subst hi2;rfl
 rw [hvs];generalize vs[0]=v0 at r0;clear e1 hvs;cases r0 with
 | ptr hφ=>
 rename_i b;have ho:=h1 0;have et:aV (av.box T [p,.d (.aC 0 [] true)]::r) 0=some (.box T [p,.d (.aC 0 [] true)]):=rfl;rw [et] at ho;obtain ⟨b',c,g1,g2,g3,g4,g5,g6⟩:=ho;rw [g1] at hφ;injection hφ with hφ;subst hφ;obtain ⟨c0,c1,rfl⟩:=jB (by simpa using g4);have q1:=g6 1 (.d (.aC 0 [] true)) c1 rfl rfl;cases q1 with
 | d hr=>
 have hc1:c1 = .slice none 0 0:=by
  cases hr with
  | iU hf=>have:=hf rfl;rw [this.1,this.2 rfl]
  | aC _ _ hf _ _ _ _=>have:=(hf rfl).2;omega
 subst hc1;have F:=ko h1 h2;refine (C9 b' c0 w (fun w'=>w'=w.drew) g3 rfl).mono ?_
 rintro e w' ⟨rfl,rfl⟩
 exact ⟨_,_,_,κ,φ,rfl,⟨rfl,rfl⟩,.d (.str _),h1,⟨h2.lt,h2.gl⟩,by simp,⟨Nat.le_refl _,fun _ hb=>⟨hb,rfl⟩,fun _ _ hb=>⟨hb,rfl⟩,fun _ c _ fz hc=>⟨c,fz,hc,rfl⟩,rfl,rfl⟩,Kp.refl _ _⟩
def oz:RV→Bool
 | .d .aG=>true
 | .ptr 0 0=>true
 | _=>false
def yS:kK:=fun a o=>match a,o with
 | [.ptr 0 0],.box T [x,y]::r=>bif zH T&&oz x then some (.d (.bn []),.box T [.ptr 0 0,y]::r,[]) else none
 | _,_=>none
theorem yT:cK Tryz.prog 144 yS:=by
 intro a o r o' c hg _;unfold yS at hg;split at hg
 ·rename_i T x y rr;cases hb:(zH T&&oz x) with
  | false=>rw [hb] at hg;simp at hg
  | true=>
    rw [hb] at hg;simp only [cond_true,Option.some.injEq,Prod.mk.injEq] at hg;obtain ⟨rfl,rfl,rfl⟩:=hg;simp only [Bool.and_eq_true] at hb;refine Gq hb.1 x y rr ?_
    have:=hb.2
    unfold oz at this;split at this
    ·exact .inl rfl
    ·exact .inr rfl
    ·cases this
 ·cases hg
def Gs:kK:=fun a o=>match a,o with
 | [.ptr 0 0],.box T [p,.sl 1 1 0 len cap] :: .bW E cs::r=>bif zH T&&Nat.beq E 5 then some (.d (.str ((cs.take len).map wu)),.box T [p,.sl 1 1 0 len cap] :: .gone::r,[(cs.take len).all Qe,Nat.ble len cs.length,Nat.ble 1 len,Nat.ble len 1099511627776]) else none
 | [.ptr 0 0],.box T [p,.d (.aC 0 [] true)]::r=>bif zH T then some (.d (.str []),.box T [p,.d (.aC 0 [] true)]::r,[]) else none
 | _,_=>none
theorem Db:cK Tryz.prog 90 Gs:=by
 intro a o r o' c hg hc;unfold Gs at hg;split at hg
 ·rename_i T p len cap E cs rr;cases hb:(zH T&&Nat.beq E 5) with
  | false=>rw [hb] at hg;simp at hg
  | true=>
    rw [hb] at hg;simp only [cond_true,Option.some.injEq,Prod.mk.injEq] at hg;obtain ⟨rfl,rfl,rfl⟩:=hg;simp only [Bool.and_eq_true] at hb
    have:=cB hb.2;subst this
    simp only [List.mem_cons,List.mem_nil_iff,or_false,forall_eq_or_imp,forall_eq] at hc;exact MJ p len cap cs rr hc.1 (Nat.le_of_ble_eq_true hc.2.1) (Nat.le_of_ble_eq_true hc.2.2.1) (Nat.le_of_ble_eq_true hc.2.2.2)
 ·rename_i T p rr;cases hb:zH T with
  | false=>rw [hb] at hg;simp at hg
  | true=>
    rw [hb] at hg;simp only [cond_true,Option.some.injEq,Prod.mk.injEq] at hg;obtain ⟨rfl,rfl,rfl⟩:=hg;exact Gr p rr
 ·cases hg
theorem JL {P:Program} (w:World) (d:Nat) (t k e:TypeId) (p:Option Nat) (h:P.underlying t=some (.map k e)):(Op.equalIn (d+1) t (.map p) (.map none)).run P w = .ok p.isNone w:=by
 cases p<;>simp [Op.equalIn,run_underlying h]
theorem pU {P:Program} (w:World) (t k e:TypeId) (p:Option Nat) (h:P.underlying t=some (.map k e)):(binOp .eql t (.map p) (.map none)).run P w = .ok (.bool p.isNone) w:=by
 have h3:(Op.equal t (.map p) (.map none)).run P w = .ok p.isNone w:=JL (P:=P) w 9999 t k e p h;simp only [binOp,Sem.run_bind,h3,Result.andThen_ok,Sem.run_pure]
theorem AZ {P:Program} (w:World) {r:Nat} {es:Array MapEntry} {clock:Nat} (t:TypeId) (hb:w.heap[r]? = some (.map es clock)) :
 (Extern.MapsClone.clone #[.iface t (.map (some r))]).run P w = .ok (.iface t (.map (some w.heap.size))) (w.alloc (.map es clock)):=by
 have hg:(getObj r).run P w = .ok (.map es clock) w:=by simp [getObj,Sem.run,hb]
 have e:Extern.MapsClone.clone #[.iface t (.map (some r))]=(getObj r >>= fun o=>match o with
  | .map entries clock=>(newObj (.map entries clock) >>= fun n=>pure (.iface t (.map (some n))))
  | _=>stuck "maps.clone: a map expected"):=rfl
 rw [e];simp only [Sem.run_bind,hg,Result.andThen_ok];rfl
theorem pV {P:Program} (w:World) (t xT k e:TypeId) (v:Value) (h:P.underlying t=some (.map k e)):(Instr.typeAssert (.iface t v) xT t false).run P w = .ok v w:=by
 simp [Instr.typeAssert,run_underlying h,go_sem,Result.andThen]
set_option maxHeartbeats 1000000 in
theorem JM (b:Nat) (es:Array MapEntry) (clock:Nat) (w:World) (hb:w.heap[b]? = some (.map es clock)) :
 Calls Tryz.prog 433 #[.map (some b)] w fun e w'=>e = .returned (.map (some w.heap.size))∧w'=w.alloc (.map es clock):=by
 have hq:=fun w=>pU (P:=Tryz.prog) w 413 _ _ (some b) Tryz.underlying413
 go_enter Tryz.func433,Tryz.ntmps433
 go_wp2
 rw [run_callFunc_extern Tryz.func220 (by kernel_rfl) (by kernel_rfl) (by kernel_rfl) (e:=Extern.MapsClone.clone) (by kernel_rfl),AZ w 413 hb];simp only [Result.andThen];rw [Oper.upon_value]
 go_wp2
 rw [pV _ 413 20 _ _ _ Tryz.underlying413];simp only [Result.andThen];rw [Oper.upon_value]
 go_wp2
 go_ret
 exact ⟨rfl,rfl⟩
theorem Qf (es:List (DV×DV)):C Tryz.prog 433 [.map 0] [.map es] (fun r o=>r = .map 1∧o=[.map es,.map es]):=by
 intro κ φ w vs h1 h2 h3 h4;obtain ⟨v,rfl,hv⟩:=arg1 h3 h4;cases hv with
 | map hφ=>
 rename_i b;have ho:=h1 0;have et:aV [av.map es] 0=some (.map es):=rfl;rw [et] at ho;obtain ⟨b',eB,clock,g1,g2,g3,g4,g5⟩:=ho
 have:b'=b:=by rw [g1] at hφ;injection hφ
 subst this;refine (JM b' eB clock w g3).mono ?_
 rintro e w' ⟨rfl,rfl⟩
 have F:=ko h1 h2
 obtain ⟨q1,q2,q3⟩:=F.alloc (i:=1) (p:=.map es) (o:=.map eB clock) (w':=w.alloc (.map eB clock)) rfl (by simp [aV])
  (fun M=>⟨_,eB,clock,aS _ _ _,cZ _ _ _,aW _ _,g4,fun j x e hx he=>by
    obtain ⟨k1,k2,k3⟩:=g5 j x e hx he;exact ⟨k1.mono M.dN,k2.mono M.dN,k3⟩⟩)
 have JF:bF (aV [av.map es]) 1 (some (.map es))=aV [.map es,.map es]:=by
  funext i
  match i with
  | 0=>simp [bF,aV]
  | 1=>simp [bF,aV]
  | i+2=>simp [bF,aV]
 simp only [JF] at q1 q2;exact ⟨_,_,_,_,_,rfl,⟨rfl,rfl⟩,.map (aS _ _ _),q1.objs,q1.bnd,by simp,q3,q2.kp⟩
def JN:kK:=fun a o=>match a,o with
 | [.map 0],[.map es]=>some (.map 1,[.map es,.map es],[])
 | _,_=>none
theorem Qg:cK Tryz.prog 433 JN:=by
 intro a o r o' c hg _;unfold JN at hg;split at hg
 ·rename_i es;simp only [Option.some.injEq,Prod.mk.injEq] at hg;obtain ⟨rfl,rfl,rfl⟩:=hg;exact Qf es
 ·cases hg
set_option maxHeartbeats 1000000 in
theorem GL (b:Nat) (es:Array MapEntry) (clock:Nat) (w:World) (hb:w.heap[b]? = some (.map es clock)) :
 Calls Tryz.prog 221 #[.map (some b)] w fun e w'=>e = .returned (.map (some w.heap.size))∧w'=w.alloc (.map es clock):=by
 have hq:=fun w=>pU (P:=Tryz.prog) w 144 _ _ (some b) Tryz.underlying144
 go_enter Tryz.func221,Tryz.ntmps221
 go_wp2
 rw [run_callFunc_extern Tryz.func220 (by kernel_rfl) (by kernel_rfl) (by kernel_rfl) (e:=Extern.MapsClone.clone) (by kernel_rfl),AZ w 144 hb];simp only [Result.andThen];rw [Oper.upon_value]
 go_wp2
 rw [pV _ 144 20 _ _ _ Tryz.underlying144];simp only [Result.andThen];rw [Oper.upon_value]
 go_wp2
 go_ret
 exact ⟨rfl,rfl⟩
theorem Nn (es:List (DV×DV)):C Tryz.prog 221 [.map 0] [.map es] (fun r o=>r = .map 1∧o=[.map es,.map es]):=by
 intro κ φ w vs h1 h2 h3 h4;obtain ⟨v,rfl,hv⟩:=arg1 h3 h4;cases hv with
 | map hφ=>
 rename_i b;have ho:=h1 0;have et:aV [av.map es] 0=some (.map es):=rfl;rw [et] at ho;obtain ⟨b',eB,clock,g1,g2,g3,g4,g5⟩:=ho
 have:b'=b:=by rw [g1] at hφ;injection hφ
 subst this;refine (GL b' eB clock w g3).mono ?_
 rintro e w' ⟨rfl,rfl⟩
 have F:=ko h1 h2
 obtain ⟨q1,q2,q3⟩:=F.alloc (i:=1) (p:=.map es) (o:=.map eB clock) (w':=w.alloc (.map eB clock)) rfl (by simp [aV])
  (fun M=>⟨_,eB,clock,aS _ _ _,cZ _ _ _,aW _ _,g4,fun j x e hx he=>by
    obtain ⟨k1,k2,k3⟩:=g5 j x e hx he;exact ⟨k1.mono M.dN,k2.mono M.dN,k3⟩⟩)
 have JF:bF (aV [av.map es]) 1 (some (.map es))=aV [.map es,.map es]:=by
  funext i
  match i with
  | 0=>simp [bF,aV]
  | 1=>simp [bF,aV]
  | i+2=>simp [bF,aV]
 simp only [JF] at q1 q2;exact ⟨_,_,_,_,_,rfl,⟨rfl,rfl⟩,.map (aS _ _ _),q1.objs,q1.bnd,by simp,q3,q2.kp⟩
theorem Np:cK Tryz.prog 221 JN:=by
 intro a o r o' c hg _;unfold JN at hg;split at hg
 ·rename_i es;simp only [Option.some.injEq,Prod.mk.injEq] at hg;obtain ⟨rfl,rfl,rfl⟩:=hg;exact Nn es
 ·cases hg
end Go.Proofs.YtjoefbioobdinaaGreatDoor
namespace Go.Proofs.YtjoefbioobdinaaGreatDoor
open Go.RowKit Am
set_option maxRecDepth 1000000
theorem GN (w:World) {b:Nat} {T:TypeId} {x v:Value} {o:Obj} (hb:w.heap[b]? = some (.cells #[x,.slice none 0 0] T (0,0))) :
 ((w.setCell ⟨b,1,none⟩ v).alloc o).heap=(World.row (w.alloc o) b (.cells #[x,v] T (0,0))).heap:=by
 have hlt:=(Array.getElem?_eq_some_iff.1 hb).1;rw [lX hb];simp only [World.row,World.alloc];apply Array.ext';simp only [Array.toList_push,Array.toList_setIfInBounds];rw [List.set_append_left _ _ (by simpa using hlt)];rfl
theorem JO {κ:bE} {φ:bP} {w w' : World} {s:cu} {a:Act} (F:aA κ φ w s a) (h:w'.heap=w.heap):aA κ φ w' s a:=
 ⟨fun t=>by rw [h];exact F.regs t,fun i=>by rw [h];exact F.objs i,⟨fun b hb=>by rw [h];exact F.bnd.lt b hb,fun p hp=>by rw [h];exact F.bnd.gl p hp⟩,F.n,by rw [h];exact F.df⟩
set_option maxHeartbeats 2000000 in
theorem Nq {T:Nat} (b n:Nat) (w:World) (hbk:w.heap[b]? = some (.cells #[.pointer (some ⟨b,0,none⟩),.slice none 0 0] T (0,0))) (hn:n≤281474976710656) (Q:World→Prop)
 (hQ:∀(cs:Array Value) (w' : World),n≤cs.size→w'.heap=((w.setCell ⟨b,1,none⟩ (.slice (some ⟨w.heap.size,0,none⟩) 0 cs.size)).alloc (.cells cs 5)).heap→w'.os=w.os→w'.output=w.output→Q w') :
 Calls Tryz.prog 219 #[.pointer (some ⟨b,0,none⟩),.int .i64 n] w fun e w'=>e = .returned (.tuple #[])∧Q w':=by
 obtain ⟨cs,hrun,hle,hmax⟩:=Lib.run_makeNoZero (P:=Tryz.prog) w.drew #[3] 130 5 Tryz.underlying130 n hn
 have hw:IntKind.i64.wrap (IntKind.i64.wrap 0+(n:Int))=n:=by
  rw [IntKind.wrap_i64,IntKind.wrap_i64];omega
 have hcall:(callFunc 315 #[.int .i64 (IntKind.i64.wrap (IntKind.i64.wrap 0+(n:Int)))]).run Tryz.prog w.drew = .ok (.value (.slice (some ⟨w.drew.heap.size,0,none⟩) n cs.size)) (w.drew.drew.drew.alloc (.cells cs 5)):=by
  rw [hw,run_callFunc_extern Tryz.func315 (by kernel_rfl) (by kernel_rfl) (by kernel_rfl) (e:=Extern.BytealgMakeNoZero.makeNoZero #[3] #[130]) (by kernel_rfl),hrun];rfl
 have c1:w.drew.cell? ⟨b,1,none⟩=some (.slice none 0 0):=by
  have:w.drew.heap[b]? = _:=hbk
  rw [Lib.cell_of_heap this];rfl
 have hlt:b < w.heap.size:=(Array.getElem?_eq_some_iff.1 hbk).1
 have c2:(w.alloc (.cells cs 5)).cell? ⟨b,1,none⟩=some (.slice none 0 0):=by
  have:(w.alloc (.cells cs 5)).heap[b]? = _:=(Lib.alloc_old w _ b hlt).trans hbk
  rw [Lib.cell_of_heap this];rfl
 have f2:(w.alloc (.cells cs 5)).frozen? ⟨b,1,none⟩=false:=Lib.frozen_of_heap ((Lib.alloc_old w _ b hlt).trans hbk) 1
 have hcopy:∀W:World,(Builtin.copy_ #[130,130] 3 #[.slice (some ⟨w.heap.size,0,none⟩) 0 cs.size,.slice none 0 0]).run Tryz.prog W = .ok (goInt 0) W:=
  fun W=>run_copy_none W 130 130 3 5 _ _ 0 cs.size 0 0 Tryz.underlying130 (by kernel_rfl) rfl
 have HQ:=Lib.hid (fun w' h1 h2 h3=>hQ cs w' hle h1 h2 h3);clear hw hQ
 go_enter Tryz.func219,Tryz.ntmps219
 go_wp2
 go_region
 all_goals (go_wp2;go_end0;exact ⟨rfl,HQ.out _ rfl rfl rfl⟩)
theorem arg2 {κ:bE} {φ:bP} {O:Tab} {h:Heap} {vs:Array Value} {x y:RV} (h3:vs.size=[x,y].length) (h4:∀(i:Nat) (z:RV) (v:Value),[x,y][i]? = some z→vs[i]? = some v→bJ κ φ O h z v) :
 ∃v u,vs = #[v,u]∧bJ κ φ O h x v∧bJ κ φ O h y u:=by
 have hs:vs.size=2:=by simpa using h3
 refine ⟨vs[0],vs[1],?_,h4 0 x _ rfl (by simp [hs]),h4 1 y _ rfl (by simp [hs])⟩;apply Array.ext
 ·simpa using hs
 ·intro i hi hi2;simp at hi2
  match i,hi2 with
  | 0,_=>rfl
  | 1,_=>rfl
theorem Tk {T:Nat} (n:Nat) (hn:n≤281474976710656):C Tryz.prog 219 [.ptr 0 0,.d (.int .i64 n)] [.box T [.ptr 0 0,.d (.aC 0 [] true)]]
 (fun v o=>v = .d (.bn [])∧o=[.box T [.ptr 0 0,.sl 1 1 0 0 none],.bW 5 []]):=by
 intro κ φ w vs h1 h2 h3 h4;obtain ⟨v0,v1,rfl,r0,r1⟩:=arg2 h3 h4;cases r0 with
 | ptr hφ=>
 cases r1 with
 | d hd=>
 cases hd;rename_i b;have ho:=h1 0;have et:aV [av.box T [.ptr 0 0,.d (.aC 0 [] true)]] 0=some (.box T [.ptr 0 0,.d (.aC 0 [] true)]):=rfl;rw [et] at ho;obtain ⟨b',c,g1,g2,g3,g4,g5,g6⟩:=ho;rw [g1] at hφ;injection hφ with hφ;subst hφ
 obtain ⟨c0,c1,rfl⟩:=jB (by simpa using g4);have q0:=g6 0 (.ptr 0 0) c0 rfl rfl;have q1:=g6 1 (.d (.aC 0 [] true)) c1 rfl rfl
 have hc1:c1 = .slice none 0 0:=by
  cases q1 with
  | d hr=>
  cases hr with
  | iU hf=>have:=hf rfl;rw [this.1,this.2 rfl]
  | aC _ _ hf _ _ _ _=>have:=(hf rfl).2;omega
 subst hc1
 have hc0:c0 = .pointer (some ⟨b',0,none⟩):=by
  cases q0 with
  | ptr hp=>rw [g1] at hp;injection hp with hp;subst hp;rfl
 subst hc0;have F:=ko h1 h2
 refine (Nq b' n w g3 hn (fun w'=>∃κ' φ',(∀i,OR κ' φ' (aV [.box T [.ptr 0 0,.sl 1 1 0 0 none],.bW 5 []]) w'.heap i (aV [av.box T [.ptr 0 0,.sl 1 1 0 0 none],.bW 5 []] i))∧
  Bc κ' w'∧Fr κ w κ' w'∧Kp φ (aV [av.box T [.ptr 0 0,.d (.aC 0 [] true)]]) φ' (aV [av.box T [.ptr 0 0,.sl 1 1 0 0 none],.bW 5 []])) (fun cs w' hle hh hos hout=>?_)).mono (fun e w' ⟨he,κ',φ',k1,k2,k3,k4⟩=>
   ⟨_,_,_,κ',φ',he,⟨rfl,rfl⟩,.d (.bn rfl (by simp)),k1,k2,by simp,k3,k4⟩)
 obtain ⟨p1,p2,p3⟩:=F.alloc (i:=1) (p:=.bW 5 []) (o:=.cells cs 5) (w':=w.alloc (.cells cs 5)) rfl (by simp [aV])
  (fun M=>⟨_,cs,(0,0),aS _ _ _,cZ _ _ _,aW _ _,Dw _ _,by simp,fun j x v hx hv=>by simp at hx⟩)
 have hne:(0:Nat)≠1:=by decide
 have hlt:b' < w.heap.size:=(Array.getElem?_eq_some_iff.1 g3).1;have g3' : (w.alloc (.cells cs 5)).heap[b']? = some (.cells #[.pointer (some ⟨b',0,none⟩),.slice none 0 0] T (0,0)):=(Lib.alloc_old w _ b' hlt).trans g3;have hκ:qL κ w.heap.size (.own 1) b' = .own 0:=by rw [fZ _ _ (by omega)];exact g2
 have hφ' : iG φ 1 (.at w.heap.size) 0 = .at b':=by rw [lY _ _ hne];exact g1
 obtain ⟨t1,t2,t3⟩:=p1.write (i:=0) (p:=.box T [.ptr 0 0,.sl 1 1 0 0 none]) (o:=.cells #[.pointer (some ⟨b',0,none⟩),.slice (some ⟨w.heap.size,0,none⟩) 0 cs.size] T (0,0)) hκ hφ'
  (fun c ty fz hh=>by rw [g3'] at hh;injection hh with hh;injection hh with a1 a2 a3;subst a1;subst a2;exact ⟨_,_,rfl,rfl⟩) (fun n hn=>by simp [av.dB] at hn)
  (fun M=>⟨b',_,hφ',hκ,dL g3',rfl,fun v hv=>by
    simp at hv;rcases hv with rfl | rfl<;>rfl,fun j x v hx hv=>by
    match j,hx,hv with
    | 0,hx,hv=>simp at hx hv;subst hx;subst hv;exact .ptr hφ'
    | 1,hx,hv=>
      simp at hx hv;subst hx;subst hv;refine .sl (aS _ _ _) (c:=cs) (ty:=5) (fz:=(0,0)) ?_ (.inl rfl) (by omega) (Nat.zero_le _) (fun k e=>by cases e) (fun _ m hm=>?_)
      ·rw [iF _ _ (by omega)];exact aW _ _
      ·simp [bF,av.dB] at hm;omega
    | j+2,hx,hv=>simp at hx⟩)
 have JF:bF (bF (aV [av.box T [.ptr 0 0,.d (.aC 0 [] true)]]) 1 (some (.bW 5 []))) 0 (some (.box T [.ptr 0 0,.sl 1 1 0 0 none]))=aV [.box T [.ptr 0 0,.sl 1 1 0 0 none],.bW 5 []]:=by
  funext i
  match i with
  | 0=>simp [bF,aV]
  | 1=>simp [bF,aV]
  | i+2=>simp [bF,aV]
 simp only [JF] at t1 t2;have hheap:w'.heap=(World.row (w.alloc (.cells cs 5)) b' (.cells #[.pointer (some ⟨b',0,none⟩),.slice (some ⟨w.heap.size,0,none⟩) 0 cs.size] T (0,0))).heap:=hh.trans (GN w g3);have t1':=JO t1 hheap;have hfr:=p3.trans t3;have aaf : Fr κ w (qL κ w.heap.size (.own 1)) w':=⟨by rw [hheap];exact hfr.size,fun b hb=>by rw [hheap];exact hfr.dN b hb,fun b hb ho=>by rw [hheap];exact hfr.kQ b hb ho,fun b c ty fz hc=>by rw [hheap];exact hfr.wQ b c ty fz hc,hos,hout⟩
 exact ⟨_,_,t1'.objs,t1'.bnd,aaf,⟨fun i hi=>by rw [t2.kp.phi i (by rw [p2.kp.phi i hi];exact hi),p2.kp.phi i hi],fun i m hi hm=>p2.kp.len i m hi (by
  have:=t2.kp.len i m (by rw [p2.kp.phi i hi];exact hi) hm
  exact this)⟩⟩
def Nr:kK:=fun a o=>match a,o with
 | [.ptr 0 0,.d (.int .i64 n)],[.box T [.ptr 0 0,.d (.aC 0 [] true)]]=>some (.d (.bn []),[.box T [.ptr 0 0,.sl 1 1 0 0 none],.bW 5 []],[decide (0≤n),decide (n≤281474976710656)])
 | _,_=>none
theorem Ns:cK Tryz.prog 219 Nr:=by
 intro a o r o' c hg hc;unfold Nr at hg;split at hg
 ·rename_i n T;simp only [Option.some.injEq,Prod.mk.injEq] at hg;obtain ⟨rfl,rfl,rfl⟩:=hg;have h0:0≤n:=by simpa using hc (decide (0≤n)) (by simp)
  have h1:n≤281474976710656:=by simpa using hc (decide (n≤281474976710656)) (by simp)
  have:=Tk (T:=T) n.toNat (by omega)
  rw [Int.toNat_of_nonneg h0] at this;exact this
 ·cases hg
end Go.Proofs.YtjoefbioobdinaaGreatDoor
namespace Go.Proofs
open Go.Shelf
def Tryz.keysA_ren:Go.Shelf.Ren:=⟨fun | 7=>431 | 10=>535 | n=>n,fun | 23=>413 | 26=>3 | 3=>9 | 28=>250 | 0=>0 | 27=>249 | 33=>155 | 4=>4 | n=>n,fun | n=>n⟩
theorem Tryz.keysA:Go.Proofs.SlLaysZI.n7 Tryz.prog Tryz.keysA_ren:={
 mixed:=by kernel_rfl
 f7:=⟨Tryz.f431.name,by decide,Tryz.func431.trans (congrArg some (by kernel_rfl))⟩
 f10:=⟨Tryz.f535.name,by decide,Tryz.func535.trans (congrArg some (by kernel_rfl))⟩
 t0:=Tryz.underlying0
 a0:=Tryz.isAgg0
 z0:=Tryz.sizeOf0
 v0:=Tryz.zeroValue0
 t4:=Tryz.underlying4
 a4:=Tryz.isAgg4
 z4:=Tryz.sizeOf4
 v4:=Tryz.zeroValue4
 t23:=Tryz.underlying413
 a23:=Tryz.isAgg413
 z23:=Tryz.sizeOf413
 v23:=Tryz.zeroValue413
 t26:=Tryz.underlying3
 a26:=Tryz.isAgg3
 z26:=Tryz.sizeOf3
 v26:=Tryz.zeroValue3
 t27:=Tryz.underlying249
 a27:=Tryz.isAgg249
 z27:=Tryz.sizeOf249
 v27:=Tryz.zeroValue249
 t28:=Tryz.underlying250
 a28:=Tryz.isAgg250
 z28:=Tryz.sizeOf250
 v28:=Tryz.zeroValue250
 t33:=Tryz.underlying155
 a33:=Tryz.isAgg155
 z33:=Tryz.sizeOf155
 v33:=Tryz.zeroValue155 }
def Tryz.sortedA_ren:Go.Shelf.Ren:=⟨fun | 6=>155 | 8=>222 | 9=>223 | 11=>316 | 13=>162 | 12=>317 | 23=>239 | 24=>215 | 14=>414 | 15=>415 | 16=>416 | 17=>417 | 18=>418 | 19=>419 | 20=>420 | 21=>421 | 22=>422 | 25=>525 | 26=>322 | 27=>323 | 28=>526 | 29=>527 | 30=>528 | 31=>607 | n=>n,fun | 26=>3 | 28=>250 | 24=>40 | 0=>0 | 3=>3 | 37=>204 | 48=>293 | 50=>97 | 4=>4 | 40=>335 | 39=>334 | 45=>340 | 5=>5 | 9=>9 | 51=>433 | 55=>436 | 57=>516 | 58=>53 | 33=>155 | n=>n,fun | n=>n⟩
theorem Tryz.sortedA:Go.Proofs.SlLaysZI.n6 Tryz.prog Tryz.sortedA_ren:={
 mixed:=by kernel_rfl
 f6:=⟨Tryz.f155.name,by decide,Tryz.func155.trans (congrArg some (by kernel_rfl))⟩
 f8:=⟨Tryz.f222.name,by decide,Tryz.func222.trans (congrArg some (by kernel_rfl))⟩
 f11:=⟨Tryz.f316.name,by decide,Tryz.func316.trans (congrArg some (by kernel_rfl))⟩
 t0:=Tryz.underlying0
 a0:=Tryz.isAgg0
 z0:=Tryz.sizeOf0
 v0:=Tryz.zeroValue0
 t24:=Tryz.underlying40
 a24:=Tryz.isAgg40
 z24:=Tryz.sizeOf40
 v24:=Tryz.zeroValue40
 t26:=Tryz.underlying3
 a26:=Tryz.isAgg3
 z26:=Tryz.sizeOf3
 v26:=Tryz.zeroValue3
 t28:=Tryz.underlying250
 a28:=Tryz.isAgg250
 z28:=Tryz.sizeOf250
 v28:=Tryz.zeroValue250
 i26:=by kernel_rfl }
def Tryz.sortA_ren:Go.Shelf.Ren:=⟨fun | 5=>223 | 8=>162 | 7=>317 | 19=>239 | 20=>215 | 10=>414 | 11=>415 | 12=>416 | 13=>417 | 14=>418 | 15=>419 | 16=>420 | 17=>421 | 18=>422 | 30=>525 | 31=>322 | 32=>323 | 33=>526 | 34=>527 | 35=>528 | 40=>607 | n=>n,fun | 23=>40 | 25=>3 | 3=>3 | 32=>204 | 22=>40 | 0=>0 | 44=>293 | 46=>97 | 4=>4 | 36=>335 | 35=>334 | 41=>340 | 5=>5 | 9=>9 | 53=>433 | 57=>436 | 63=>516 | 64=>53 | n=>n,fun | n=>n⟩
theorem Tryz.sortA:Go.Proofs.SlLaysM.n5 Tryz.prog Tryz.sortA_ren:={
 mixed:=by kernel_rfl
 f5:=⟨Tryz.f223.name,by decide,Tryz.func223.trans (congrArg some (by kernel_rfl))⟩
 f7:=⟨Tryz.f317.name,by decide,Tryz.func317.trans (congrArg some (by kernel_rfl))⟩
 f8:=Tryz.func162.trans (congrArg some (by kernel_rfl))
 f10:=⟨Tryz.f414.name,by decide,Tryz.func414.trans (congrArg some (by kernel_rfl))⟩
 f11:=⟨Tryz.f415.name,by decide,Tryz.func415.trans (congrArg some (by kernel_rfl))⟩
 f12:=⟨Tryz.f416.name,by decide,Tryz.func416.trans (congrArg some (by kernel_rfl))⟩
 f13:=⟨Tryz.f417.name,by decide,Tryz.func417.trans (congrArg some (by kernel_rfl))⟩
 f14:=⟨Tryz.f418.name,by decide,Tryz.func418.trans (congrArg some (by kernel_rfl))⟩
 f15:=⟨Tryz.f419.name,by decide,Tryz.func419.trans (congrArg some (by kernel_rfl))⟩
 f16:=⟨Tryz.f420.name,by decide,Tryz.func420.trans (congrArg some (by kernel_rfl))⟩
 f17:=⟨Tryz.f421.name,by decide,Tryz.func421.trans (congrArg some (by kernel_rfl))⟩
 f18:=⟨Tryz.f422.name,by decide,Tryz.func422.trans (congrArg some (by kernel_rfl))⟩
 f19:=Tryz.func239.trans (congrArg some (by kernel_rfl))
 f20:=Tryz.func215.trans (congrArg some (by kernel_rfl))
 f30:=⟨Tryz.f525.name,by decide,Tryz.func525.trans (congrArg some (by kernel_rfl))⟩
 f31:=Tryz.func322.trans (congrArg some (by kernel_rfl))
 f32:=Tryz.func323.trans (congrArg some (by kernel_rfl))
 f33:=⟨Tryz.f526.name,by decide,Tryz.func526.trans (congrArg some (by kernel_rfl))⟩
 f34:=⟨Tryz.f527.name,by decide,Tryz.func527.trans (congrArg some (by kernel_rfl))⟩
 f35:=⟨Tryz.f528.name,by decide,Tryz.func528.trans (congrArg some (by kernel_rfl))⟩
 f40:=⟨Tryz.f607.name,by decide,Tryz.func607.trans (congrArg some (by kernel_rfl))⟩
 t0:=Tryz.underlying0
 a0:=Tryz.isAgg0
 z0:=Tryz.sizeOf0
 v0:=Tryz.zeroValue0
 t3:=Tryz.underlying3
 a3:=Tryz.isAgg3
 z3:=Tryz.sizeOf3
 v3:=Tryz.zeroValue3
 t4:=Tryz.underlying4
 a4:=Tryz.isAgg4
 z4:=Tryz.sizeOf4
 v4:=Tryz.zeroValue4
 t5:=Tryz.underlying5
 a5:=Tryz.isAgg5
 z5:=Tryz.sizeOf5
 v5:=Tryz.zeroValue5
 t9:=Tryz.underlying9
 a9:=Tryz.isAgg9
 z9:=Tryz.sizeOf9
 v9:=Tryz.zeroValue9
 t22:=Tryz.underlying40
 a22:=Tryz.isAgg40
 z22:=Tryz.sizeOf40
 v22:=Tryz.zeroValue40
 t23:=Tryz.underlying40
 a23:=Tryz.isAgg40
 z23:=Tryz.sizeOf40
 v23:=Tryz.zeroValue40
 t25:=Tryz.underlying3
 a25:=Tryz.isAgg3
 z25:=Tryz.sizeOf3
 v25:=Tryz.zeroValue3
 t32:=Tryz.underlying204
 a32:=Tryz.isAgg204
 z32:=Tryz.sizeOf204
 v32:=Tryz.zeroValue204
 t35:=Tryz.underlying334
 a35:=Tryz.isAgg334
 z35:=Tryz.sizeOf334
 v35:=Tryz.zeroValue334
 t36:=Tryz.underlying335
 a36:=Tryz.isAgg335
 z36:=Tryz.sizeOf335
 v36:=Tryz.zeroValue335
 t41:=Tryz.underlying340
 a41:=Tryz.isAgg340
 z41:=Tryz.sizeOf340
 v41:=Tryz.zeroValue340
 t44:=Tryz.underlying293
 a44:=Tryz.isAgg293
 z44:=Tryz.sizeOf293
 v44:=Tryz.zeroValue293
 t46:=Tryz.underlying97
 a46:=Tryz.isAgg97
 z46:=Tryz.sizeOf97
 v46:=Tryz.zeroValue97
 t53:=Tryz.underlying433
 a53:=Tryz.isAgg433
 z53:=Tryz.sizeOf433
 v53:=Tryz.zeroValue433
 t57:=Tryz.underlying436
 a57:=Tryz.isAgg436
 z57:=Tryz.sizeOf436
 v57:=Tryz.zeroValue436
 t63:=Tryz.underlying516
 a63:=Tryz.isAgg516
 z63:=Tryz.sizeOf516
 v63:=Tryz.zeroValue516
 t64:=Tryz.underlying53
 a64:=Tryz.isAgg53
 z64:=Tryz.sizeOf53
 v64:=Tryz.zeroValue53 }
end Go.Proofs
