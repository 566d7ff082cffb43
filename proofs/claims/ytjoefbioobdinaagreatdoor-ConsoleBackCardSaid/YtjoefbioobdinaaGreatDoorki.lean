/-
  Texts that the claim leans on: K2, ConTx, K3, K4, K5, K6, AmNb.
-/
import Derived.Test.YtjoefbioobdinaaGreatDoorProg
import Derived.Test.YtjoefbioobdinaaGreatDoorkh
import Derived.Lib.Bytealg
import Derived.Lib.SlTrimSet
import Derived.Lib.ParseIntBTie
import Derived.Lib.SmallJoins
import Derived.Lib.Hide
import Derived.WalkKit
namespace Go.Proofs.YtjoefbioobdinaaGreatDoor
open Go.RowKit Am
open Go.aR hiding cut intOf take split
set_option maxRecDepth 100000
set_option linter.unusedVariables false
set_option linter.unusedSimpArgs false
abbrev sT:Nat:=9
abbrev bT:Nat:=5
abbrev iT:Nat:=3
noncomputable abbrev Ym:Code:=dS Tryz.f76
def Qv (s:W) (out:List DV) (i:Nat):jB:={ n:=43,m:=0,regs:=T.mk [(0,.d (.str s)),(4,.own 200 1),(5,.d (.int .i64 (i:Int)))],objs:=T.mk [(200,.arr bT 1 out)] }
def FN:W:=[48,49,50,51,52,53,54,55,56,57,97,98,99,100,101,102]
def wm (c:Int):Int:=Lib.indexByte FN c.toNat.toUInt8
def YZ:DV→DV→Option (DV×List Bool)
 | .str s,.int .u8 c=>some (.int .i64 (wm c),[decide (s=FN)])
 | _,_=>none
theorem Ry:bU Tryz.prog 136 (e2 YZ):=by
 refine lH fun x x2 y c hg hc=>?_;unfold YZ at hg;split at hg
 ·rename_i s b;simp only [Option.some.injEq,Prod.mk.injEq] at hg;obtain ⟨rfl,rfl⟩:=hg;have h1:=of_decide_eq_true (hc (decide (s=FN)) (by simp));subst h1;refine nE (args:=[.str FN,.int .u8 b]) (us:=[.string ⟨FN.toArray⟩,.int .u8 b]) (v:=.int .i64 (wm b)) rfl rfl fun w=>?_;refine (Tryz.strings_IndexByte ⟨FN.toArray⟩ b w).mono ?_
  rintro e w' ⟨rfl,rfl⟩
  exact ⟨rfl,Below.refl _ _⟩
 ·cases hg
theorem Hy (c:UInt8):wm (c.toNat:Nat)=match vZ c with | some k=>(k:Int) | none=>-1:=by
 have:∀n:Fin 256,Lib.indexByte FN (UInt8.ofNat n.val)=match vZ (UInt8.ofNat n.val) with | some k=>(k:Int) | none=>-1:=by decide +kernel
 have h:=this ⟨c.toNat,UInt8.toNat_lt c⟩;simp only [UInt8.ofNat_toNat] at h;unfold wm;rw [Int.toNat_natCast,show c.toNat.toUInt8=c from UInt8.ofNat_toNat ..]
 exact h
theorem Hz {c:UInt8} {k:Nat} (h:vZ c=some k):k < 16:=by
 unfold vZ at h;split at h
 ·injection h with h;omega
 ·split at h
  ·injection h with h;omega
  ·cases h
noncomputable def Rz:List (Nat×kg):=[(136,e2 YZ)]
theorem Ll:dQ Tryz.prog Rz:=.cons Ry .nil
def D9 (o:Option W):RV:=.bI [.d (.str (o.getD [])),.d (.bool o.isSome)]
theorem Ag:∀(n:Nat) (s:W),s.length=2*n+1→fU s=none
 | 0,[a],_=>rfl
 | n+1,a::b::r,h=>by
   have:=Ag n r (by simp at h;omega)
   unfold fU;rw [this]
   split<;>rfl
theorem Wm {x y:Nat} (hx:x < 16) (hy:y < 16):IntKind.u8.wrap (bits Go.BinOp.or .i64 (IntKind.i64.wrap ((x:Int)*16)) (y:Int))=((UInt8.ofNat (16*x+y)).toNat:Int):=by
 have:∀a b:Fin 16,IntKind.u8.wrap (bits Go.BinOp.or .i64 (IntKind.i64.wrap ((a.val:Int)*16)) (b.val:Int))=((UInt8.ofNat (16*a.val+b.val)).toNat:Int):=by decide +kernel
 exact this ⟨x,hx⟩ ⟨y,hy⟩
theorem Ea {s:List UInt8} {i:Nat} {c:UInt8} (hi:i≤1000000) (h:s[i+1]? = some c):ji (.d (.int .u8 (((s.getD (IntKind.i64.wrap ((Nat.cast (R:=Int) i)+1)).toNat 0).toNat:Nat):Int))) (.d (.int .u8 ((c.toNat:Nat):Int))):=.of_eq (by
 rw [fF _ (by omega),show ((i:Int)+1).toNat=i+1 by omega,List.getD,h];rfl)
theorem Lm {i n:Nat} (hi:i≤1000000) (h:i+1 < n):decide (0≤IntKind.i64.wrap ((Nat.cast (R:=Int) i)+1)∧IntKind.i64.wrap ((Nat.cast (R:=Int) i)+1) < (Nat.cast (R:=Int) n))=true:=by
 rw [fF _ (by omega)];exact decide_eq_true (by omega)
theorem drop2 {s:W} {i:Nat} {a b:UInt8} (h1:s[i]? = some a) (h2:s[i+1]? = some b):s.drop i=a::b::s.drop (i+2):=by
 obtain ⟨k1,e1⟩:=List.getElem?_eq_some_iff.1 h1;obtain ⟨k2,e2⟩:=List.getElem?_eq_some_iff.1 h2;rw [List.drop_eq_getElem_cons k1,e1,List.drop_eq_getElem_cons k2,e2]
theorem FP {a b:UInt8} {x y:Nat} (r:W) (h1:vZ a=some x) (h2:vZ b=some y):fU (a::b::r)=(fU r).map (UInt8.ofNat (16*x+y) :: ·):=by
 show (match vZ a,vZ b with
  | some x,some y=>(fU r).map (UInt8.ofNat (16*x+y) :: ·)
  | _,_=>none)=_
 rw [h1,h2]
theorem sW (a:W):(iW a).map DV.byte=a:=by
 unfold iW;rw [List.map_map]
 have:(DV.byte∘fun b:UInt8=>DV.int .u8 b.toNat)=id:=by
  funext b
  show UInt8.ofNat ((b.toNat:Int).toNat)=b
  rw [Int.toNat_natCast];exact UInt8.ofNat_toNat ..
 rw [this,List.map_id]
theorem xZ (a:W):(iW a).all DV.isByte=true:=by
 rw [List.all_eq_true];intro x hx;obtain ⟨b,_,rfl⟩:=List.mem_map.1 hx;rfl
abbrev RA (s:W):bP→Prop:=Aa (Tryz.f76.results.toList) 0 (fun r o=>r=D9 (fU s)∧o=[])
set_option maxHeartbeats 2000000 in
theorem OM (s:W) (hs:s.length≤1000000) (hm:s.length % 2=0):WK Tryz.prog 0 (aC Ym 0) (Qv s [] 0).den (RA s):=by
 have ok:=aS Ll;refine WK.rec' (fun p:W×Nat=>Qv s (iW p.1) p.2) (fun p=>p.2≤s.length∧p.2 % 2=0∧p.1.length≤p.2∧fU s=(fU (s.drop p.2)).map (p.1 ++ ·)) (fun p=>s.length-p.2) ?_ ([],0) ⟨by omega,rfl,Nat.le_refl _,by simp⟩
 rintro ⟨pre,i⟩ ⟨hi,h2,hl,hb⟩ ih
 simp only at hi h2 hl hb;by_cases he:i < s.length
 ·have h1:i+1 < s.length:=by omega
  obtain ⟨a,ha⟩:∃a,s[i]? = some a:=⟨_,List.getElem?_eq_getElem he⟩;obtain ⟨b,hb1⟩:∃b,s[i+1]? = some b:=⟨_,List.getElem?_eq_getElem h1⟩;rw [drop2 ha hb1] at hb;obtain ⟨x,hx⟩:∃x,wm (a.toNat:Nat)=x:=⟨_,rfl⟩;obtain ⟨y,hy⟩:∃y,wm (b.toNat:Nat)=y:=⟨_,rfl⟩;have ex:=(Hy a).symm.trans hx;have ey:=(Hy b).symm.trans hy;have v1:=Ht ha;have v2:=Ea (i:=i) (by omega) hb1;have c1:=Qs he;have c2:=Lm (by omega) h1;cases hxa:vZ a with
  | none=>
    rw [hxa] at ex;have x0:x < 0:=by simp only at ex;omega
    have hq:fU s=none:=by rw [hb];unfold fU;rw [hxa];rfl
    exact WK.fin ok 1000 0 [(15,ak true),(20,fZ (a.toNat:Int)),(25,fZ (b.toNat:Int)),(21,aP x),(26,aP y),(28,ak true),(32,ak true)] [decide (0≤(i:Int)∧(i:Int) < ((List.length s:Nat):Int)),true,decide (0≤IntKind.i64.wrap ((i:Int)+1)∧IntKind.i64.wrap ((i:Int)+1) < ((List.length s:Nat):Int)),true] [(ak (decide ((i:Int) < ((List.length s:Nat):Int))),ak true),(fZ ((List.getD s (i:Int).toNat (0:UInt8)).toNat:Int),fZ (a.toNat:Int)),(aP (Go.Proofs.YtjoefbioobdinaaGreatDoor.wm (a.toNat:Int)),aP x),(fZ ((List.getD s (IntKind.i64.wrap ((i:Int)+1)).toNat (0:UInt8)).toNat:Int),fZ (b.toNat:Int)),(aP (Go.Proofs.YtjoefbioobdinaaGreatDoor.wm (b.toNat:Int)),aP y),(ak (decide (x < 0)),ak true),(ak true,ak true)] rfl (by kernel_rfl:aA (bZ Rz) true _ 1000 0 _ _ (Qv s (iW pre) i)=some (RV.bI [bH [],ak false],[],_,_)) (by refine ⟨?_,?_,?_,?_,trivial⟩<;>(first | rfl | exact c1 | exact c2)) (by refine ⟨?_,?_,?_,?_,?_,?_,?_,trivial⟩<;>(first | exact ah (decide_eq_true (by omega)) | exact v1 | exact v2 | exact .of_eq (by rw [hx]) | exact .of_eq (by rw [hy]) | exact ah rfl)) ⟨by rw [hq];rfl,rfl⟩
  | some k=>
    rw [hxa] at ex;have hk:=Hz hxa;simp only at ex;subst ex;cases hyb:vZ b with
    | none=>
      rw [hyb] at ey;have y0:y < 0:=by simp only at ey;omega
      have hq:fU s=none:=by rw [hb];unfold fU;rw [hxa,hyb];rfl
      exact WK.fin ok 1000 0 [(15,ak true),(20,fZ (a.toNat:Int)),(25,fZ (b.toNat:Int)),(21,aP ((k:Nat):Int)),(26,aP y),(28,ak false),(31,ak true),(32,ak true)] [decide (0≤(i:Int)∧(i:Int) < ((List.length s:Nat):Int)),true,decide (0≤IntKind.i64.wrap ((i:Int)+1)∧IntKind.i64.wrap ((i:Int)+1) < ((List.length s:Nat):Int)),true] [(ak (decide ((i:Int) < ((List.length s:Nat):Int))),ak true),(fZ ((List.getD s (i:Int).toNat (0:UInt8)).toNat:Int),fZ (a.toNat:Int)),(aP (Go.Proofs.YtjoefbioobdinaaGreatDoor.wm (a.toNat:Int)),aP ((k:Nat):Int)),(fZ ((List.getD s (IntKind.i64.wrap ((i:Int)+1)).toNat (0:UInt8)).toNat:Int),fZ (b.toNat:Int)),(aP (Go.Proofs.YtjoefbioobdinaaGreatDoor.wm (b.toNat:Int)),aP y),(ak (decide (((k:Nat):Int) < 0)),ak false),(ak (decide (y < 0)),ak true),(ak true,ak true)] rfl (by kernel_rfl:aA (bZ Rz) true _ 1000 0 _ _ (Qv s (iW pre) i)=some (RV.bI [bH [],ak false],[],_,_)) (by refine ⟨?_,?_,?_,?_,trivial⟩<;>(first | rfl | exact c1 | exact c2)) (by refine ⟨?_,?_,?_,?_,?_,?_,?_,?_,trivial⟩<;>(first | exact ah (decide_eq_false (by omega)) | exact ah (decide_eq_true (by omega)) | exact v1 | exact v2 | exact .of_eq (by rw [hx]) | exact .of_eq (by rw [hy]) | exact ah rfl)) ⟨by rw [hq];rfl,rfl⟩
    | some j=>
      rw [hyb] at ey;have hj:=Hz hyb;simp only at ey;subst ey;have c3:decide (((iW pre).length+1)*1≤2 ^ 38)=true:=decide_eq_true (by unfold iW;rw [List.length_map];omega);have v3:=OH (i:=i) (by omega)
      have hk2:=ih (pre++[UInt8.ofNat (16*k+j)],i+2) ⟨by omega,by omega,by rw [List.length_append];simp only [List.length_cons,List.length_nil];omega,by
       rw [hb,FP _ hxa hyb,Option.map_map];congr 1;funext q;simp⟩ (by simp only;omega)
      have e5:iW (pre++[UInt8.ofNat (16*k+j)])=iW pre++[.int .u8 (IntKind.u8.wrap (bits Go.BinOp.or .i64 (IntKind.i64.wrap ((k:Int)*16)) (j:Int)))]:=by
       rw [Wm hk hj];unfold iW;rw [List.map_append];rfl
      simp only at hk2;rw [e5] at hk2;refine WK.dZ ok 1000 0 [(15,ak true),(20,fZ (a.toNat:Int)),(25,fZ (b.toNat:Int)),(21,aP ((k:Nat):Int)),(26,aP ((j:Nat):Int)),(28,ak false),(31,ak false),(32,ak false),(17,aP ((i+2:Nat):Int))] [] [0,4,5] [decide (0≤(i:Int)∧(i:Int) < ((List.length s:Nat):Int)),true,decide (0≤IntKind.i64.wrap ((i:Int)+1)∧IntKind.i64.wrap ((i:Int)+1) < ((List.length s:Nat):Int)),true,true,decide (((iW pre).length+[aU (IntKind.u8.wrap (bits Go.BinOp.or IntKind.i64 (IntKind.i64.wrap (((k:Nat):Int)*2 ^ Min.min (Int.toNat (4)) IntKind.i64.bits)) ((j:Nat):Int)))].length)*Go.Proofs.Tryz.prog.types[5].bytes≤2 ^ 38)] [(ak (decide ((i:Int) < ((List.length s:Nat):Int))),ak true),(fZ ((List.getD s (i:Int).toNat (0:UInt8)).toNat:Int),fZ (a.toNat:Int)),(aP (Go.Proofs.YtjoefbioobdinaaGreatDoor.wm (a.toNat:Int)),aP ((k:Nat):Int)),(fZ ((List.getD s (IntKind.i64.wrap ((i:Int)+1)).toNat (0:UInt8)).toNat:Int),fZ (b.toNat:Int)),(aP (Go.Proofs.YtjoefbioobdinaaGreatDoor.wm (b.toNat:Int)),aP ((j:Nat):Int)),(ak (decide (((k:Nat):Int) < 0)),ak false),(ak (decide (((j:Nat):Int) < 0)),ak false),(ak false,ak false),(aP (IntKind.i64.wrap ((i:Int)+2)),aP ((i+2:Nat):Int))] rfl (by kernel_rfl:bg (bZ Rz) 1000 0 _ _ _ _ (Qv s (iW pre) i)=some (aC Ym 0,Qv s (iW pre++[.int .u8 (IntKind.u8.wrap (bits Go.BinOp.or .i64 (IntKind.i64.wrap ((k:Int)*16)) (j:Int)))]) (i+2),_,_)) (by refine ⟨?_,?_,?_,?_,?_,?_,trivial⟩<;>(first | rfl | exact c1 | exact c2 | exact c3)) (by refine ⟨?_,?_,?_,?_,?_,?_,?_,?_,?_,trivial⟩<;>(first | exact ah (decide_eq_false (by omega)) | exact ah (decide_eq_true (by omega)) | exact v1 | exact v2 | exact v3 | exact .of_eq (by rw [hx]) | exact .of_eq (by rw [hy]) | exact ah rfl)) ?_
      exact hk2
 ·have hd:s.drop i=[]:=List.drop_eq_nil_of_le (by omega);have hq:fU s=some pre:=by rw [hb,hd];simp [fU]
  have c4:(iW pre).all DV.isByte=true:=xZ pre;exact WK.fin ok 1000 0 [(15,ak false)] [(iW pre).all DV.isByte] [(ak (decide ((i:Int) < ((List.length s:Nat):Int))),ak false)] rfl (by kernel_rfl:aA (bZ Rz) true _ 1000 0 _ _ (Qv s (iW pre) i)=some (RV.bI [bH (List.map DV.byte (iW pre)),ak true],[],_,_)) ⟨(by first | rfl | exact c4),trivial⟩ ⟨(by first | exact ah (decide_eq_false (by omega)) | exact ah rfl),trivial⟩ ⟨by rw [hq];simp only [D9,sW,Option.getD_some,Option.isSome_some],rfl⟩
theorem Y0 (s:W) (hs:s.length≤1000000):Go.Am.C Tryz.prog 76 [.d (.str s)] [] (fun r o=>r=D9 (fU s)∧o=[]):=by
 have ok:=aS Ll;refine aY (fn:=Tryz.f76) (body:=Ym) true (by kernel_rfl) (by kernel_rfl) (by kernel_rfl) ?_;by_cases hm:s.length % 2=0
 ·have e:((s.length:Int).tmod 2 != 0)=false:=by
   have:(s.length:Int).tmod 2=((s.length % 2:Nat):Int):=rfl
   rw [this,hm];rfl
  have hk:=OM s hs hm;refine WK.dZ ok 1000 0 [(11,ak false)] [(4,250,bT,1)] [0,4,5] [true] [(ak (((List.length s:Nat):Int).tmod (2) != 0),ak false)] rfl (by kernel_rfl:bg (bZ Rz) 1000 0 _ _ _ _ (dY 43 [.d (.str s)] [])=some (aC Ym 0,Qv s (iW []) 0,_,_)) ⟨(by rfl),trivial⟩ ⟨(by exact ah e),trivial⟩ ?_;exact hk
 ·have e:((s.length:Int).tmod 2 != 0)=true:=by
   have:(s.length:Int).tmod 2=((s.length % 2:Nat):Int):=rfl
   rw [this,show s.length % 2=1 by omega];rfl
  have hq:fU s=none:=Ag (s.length / 2) s (by omega);exact WK.fin ok 1000 0 [(11,ak true)] [true] [(ak (((List.length s:Nat):Int).tmod (2) != 0),ak true)] rfl (by kernel_rfl:aA (bZ Rz) true _ 1000 0 _ _ (dY 43 [.d (.str s)] [])=some (RV.bI [bH [],ak false],[],_,_)) ⟨(by rfl),trivial⟩ ⟨(by exact ah e),trivial⟩ ⟨by rw [hq];rfl,rfl⟩
def Y1:DV→Option (RV×List Bool)
 | .str s=>some (D9 (fU s),[decide (s.length≤1000000)])
 | _=>none
theorem RB:bU Tryz.prog 76 (Ce Y1):=by
 refine oI fun x y c hg hc=>?_;unfold Y1 at hg;split at hg
 ·rename_i s;simp only [Option.some.injEq,Prod.mk.injEq] at hg;obtain ⟨rfl,rfl⟩:=hg;exact Y0 s (of_decide_eq_true (hc _ (by simp:decide (s.length≤1000000)∈[decide (s.length≤1000000)])))
 ·cases hg
end Go.Proofs.YtjoefbioobdinaaGreatDoor
namespace Go.aR
open Go.Lib
theorem drop1 {α:Type} {t:List α} {i:Nat} {c:α} (h:t[i]? = some c):t.drop i=c::t.drop (i+1):=by
 obtain ⟨k1,e1⟩:=List.getElem?_eq_some_iff.1 h;rw [List.drop_eq_getElem_cons k1,e1]
theorem Lp {s:List UInt8} {a:UInt8} (h:s[0]? = some a):hasPrefix s [39]=decide (a=39):=by
 cases s with
 | nil=>cases h
 | cons x r=>
   simp at h;subst h;simp only [hasPrefix,List.isPrefixOf,Bool.and_true];by_cases e:x=39
   ·subst e;rfl
   ·rw [decide_eq_false e];exact beq_false_of_ne (Ne.symm e)
theorem Qw {s:List UInt8} {b:UInt8} (h:s[s.length-1]? = some b):hasSuffix s [39]=decide (b=39):=by
 have e:s.reverse[0]? = some b:=by
  have hl:0 < s.length:=by
   rcases List.getElem?_eq_some_iff.1 h with ⟨k,_⟩;omega
  rw [List.getElem?_reverse (by omega)];exact h
 have:=Lp (s:=s.reverse) e
 rw [←this];rfl
def x9 (s:W):Option W:=if 2≤s.length∧hasPrefix s [39]=true∧hasSuffix s [39]=true then jW (inner s 1) else none
theorem OO {s:W} {a b:UInt8} (h:2≤s.length) (h1:s[0]? = some a) (h2:s[s.length-1]? = some b) (ha:a=39) (hb:b=39):x9 s=jW (inner s 1):=by
 unfold x9;rw [Lp h1,Qw h2,if_pos ⟨h,by simp [ha],by simp [hb]⟩]
theorem Lr {s:W} {a b:UInt8} (h1:s[0]? = some a) (h2:s[s.length-1]? = some b) (h:¬(a=39∧b=39)):x9 s=none:=by
 unfold x9;rw [Lp h1,Qw h2,if_neg (by simp;intro _ x y;exact h ⟨x,y⟩)]
theorem I8 {s:W} (h:s.length < 2):x9 s=none:=by
 unfold x9;rw [if_neg (by omega)]
theorem FQ {c:UInt8} (r:W) (h:c≠39):jW (c::r)=(jW r).map (c :: ·):=by
 rw [jW.eq_def];simp only [if_neg h]
theorem I9:jW [39]=none:=by decide +kernel
theorem Ja (r:W):jW (39::39::r)=(jW r).map (39 :: ·):=by
 rw [jW.eq_def];simp
theorem Jb {d:UInt8} (r:W) (h:d≠39):jW (39::d::r)=none:=by
 rw [jW.eq_def];simp [h]
theorem take_at {s:W} {i:Nat} (h:i < s.length-1):(s.take (s.length-1))[i]? = s[i]?:=by
 rw [List.getElem?_take,if_pos h]
theorem qP {s:W} {i:Nat} (h:s.length-1≤i):(s.take (s.length-1)).drop i=[]:=by
 apply List.drop_eq_nil_of_le;rw [List.length_take];omega
theorem Ci:∀s:W,(indexByte s 32 = -1∧aR.cut s=(s,[],false))∨∃i:Nat,i < s.length∧indexByte s 32=(i:Int)∧aR.cut s=(s.take i,s.drop (i+1),true)
 | []=>.inl ⟨rfl,rfl⟩
 | b::l=>by
   rw [xX];unfold indexByte;by_cases h:b=32
   ·right;exact ⟨0,by simp,by simp [h],by simp [h]⟩
   ·rw [if_neg (by simpa using h),if_neg h];rcases Ci l with ⟨e1,e2⟩ | ⟨i,hi,e1,e2⟩
    ·left;rw [e1,e2];exact ⟨by decide,rfl⟩
    ·right;refine ⟨i+1,by simp;omega,?_,?_⟩
     ·rw [e1,if_neg (by simp)];omega
     ·rw [e2];rfl
theorem sZ (s:W):(aR.cut s).1.length≤s.length∧(aR.cut s).2.1.length≤s.length:=by
 rcases Ci s with ⟨_,e⟩ | ⟨i,hi,_,e⟩
 ·rw [e];exact ⟨Nat.le_refl _,Nat.zero_le _⟩
 ·rw [e];simp only [List.length_take,List.length_drop];omega
theorem wJ (m:Bool) (r:W):(nR m r).length≤r.length+1:=by
 unfold nR;split
 ·have:=(sZ r).1;omega
 ·simp
theorem lJ (m:Bool) (r:W):(dM m r).length≤r.length:=by
 unfold dM;split
 ·exact (sZ r).2
 ·exact Nat.le_refl _
theorem Ls {l cs:List UInt8}:trimS l cs=[]↔(l.all fun c=>cs.contains c)=true:=by
 unfold trimS trimLeftS trimRightS;constructor
 ·intro h;rw [dropWhile_nil,List.all_reverse] at h;rw [←List.all_reverse,←List.takeWhile_append_dropWhile (p:=fun c=>cs.contains c) (l:=l.reverse),List.all_append,h,Bool.and_true];exact List.all_takeWhile
 ·intro h;have h2:l.reverse.dropWhile (fun c=>cs.contains c)=[]:=dropWhile_nil.2 (by rw [List.all_reverse];exact h);rw [h2];rfl
theorem HV {w:W}:trimS w [43,45]=[]↔(w.all fun c=>c==43||c==45)=true:=by
 rw [Ls]
 have e:(fun c:UInt8=>([43,45]:List UInt8).contains c)=fun c=>c==43||c==45:=by
  funext c;simp only [List.contains,List.elem];cases c==43<;>cases c==45<;>rfl
 rw [e]
end Go.aR
namespace Go.Proofs.YtjoefbioobdinaaGreatDoor
open Go.RowKit Am
open Go.aR hiding cut intOf take split
set_option maxRecDepth 100000
set_option linter.unusedVariables false
set_option linter.unusedSimpArgs false
noncomputable abbrev Wn:Code:=dS Tryz.f77
noncomputable abbrev nxC:Code:=dS Tryz.f137
def Nz (s:W) (out:List DV) (k:Int):jB:={ n:=52,m:=0,regs:=T.mk [(1,.ptr 200 0),(4,.own 201 1),(5,.ptr 202 0),(6,.fM (.func 137) [] [.ptr 200 0,.ptr 202 0])],objs:=T.mk [(200,.box sT [.d (.str s)]),(201,.arr bT 1 out),(202,.box iT [.d (.int .i64 k)])] }
def Y2:kg:=fun a o=>match a,o with
 | [.ptr 0 0,.ptr 1 0],[.box A [.d (.str s)],.box B [.d (.int .i64 k)]]=>
   some (.d (.int .u8 ((s.getD k.toNat 0).toNat:Nat)),[.box A [.d (.str s)],.box B [.d (.int .i64 (IntKind.i64.wrap (k+1)))]],[Nat.beq A sT,Nat.beq B iT,decide (0≤k∧k < (s.length:Int))])
 | _,_=>none
theorem RD:bU Tryz.prog 137 Y2:=by
 intro a o r o' c hg hc;unfold Y2 at hg;split at hg
 ·rename_i A s B k;simp only [Option.some.injEq,Prod.mk.injEq] at hg;obtain ⟨rfl,rfl,rfl⟩:=hg;have hA:=bQ (hc (Nat.beq A sT) (by simp));have hB:=bQ (hc (Nat.beq B iT) (by simp));have hk:=hc (decide (0≤k∧k < (s.length:Int))) (by simp);subst hA;subst hB;have ok:=aS (l:=[]) .nil;refine aY (fn:=Tryz.f137) (body:=nxC) true (by kernel_rfl) (by kernel_rfl) (by kernel_rfl) ?_;exact WK.fin ok 1000 0 [] [decide (0≤k∧k < ((List.length s:Nat):Int))] [] rfl (by kernel_rfl:aA (bZ []) true _ 1000 0 _ _ (dY 10 [.ptr 0 0,.ptr 1 0] [.box sT [.d (.str s)],.box iT [.d (.int .i64 k)]])=some (fZ ((List.getD s k.toNat (0:UInt8)).toNat:Int),[au.box 9 [bH s],au.box 3 [aP (IntKind.i64.wrap (k+1))]],_,_)) ⟨(by first | rfl | exact hk),trivial⟩ trivial ⟨rfl,rfl⟩
 ·cases hg
noncomputable def NA:List (Nat×kg):=[(137,Y2)]
theorem Lu:dQ Tryz.prog NA:=.cons RD .nil
abbrev RF (s:W):bP→Prop:=Aa (Tryz.f77.results.toList) 0 (fun r o=>r=D9 (x9 s)∧o=[])
theorem OP {a:UInt8} (h:a=39):((Nat.cast (R:=Int) a.toNat) != 39)=false:=by subst h;rfl
theorem OQ {a:UInt8} (h:a≠39):((Nat.cast (R:=Int) a.toNat) != 39)=true:=by
 rw [bne_iff_ne];intro e
 exact h (UInt8.toNat_inj.1 (by have:a.toNat=39:=by omega
                                exact this))
theorem RG {a:UInt8} (h:a=39):((Nat.cast (R:=Int) a.toNat)==39)=true:=by subst h;rfl
theorem Y3 {a:UInt8} (h:a≠39):((Nat.cast (R:=Int) a.toNat)==39)=false:=by
 have:=OQ h
 rw [bne,Bool.not_eq_true'] at this;exact this
theorem Lv {s:List UInt8} {c:UInt8} (h:s[0]? = some c):ji (.d (.int .u8 (((s.getD 0 0).toNat:Nat):Int))) (.d (.int .u8 ((c.toNat:Nat):Int))):=.of_eq (by
 rw [List.getD,h];rfl)
theorem Lx {s:List UInt8} {c:UInt8} (h1:1≤s.length) (h2:s.length≤1000000) (h:s[s.length-1]? = some c):ji (.d (.int .u8 (((s.getD (IntKind.i64.wrap ((Nat.cast (R:=Int) s.length)-1)).toNat 0).toNat:Nat):Int))) (.d (.int .u8 ((c.toNat:Nat):Int))):=.of_eq (by
 rw [fF _ (by omega),show ((s.length:Int)-1).toNat=s.length-1 by omega,List.getD,h];rfl)
theorem tq (a:W) (c:UInt8):iW (a++[c])=iW a++[.int .u8 (Nat.cast (R:=Int) c.toNat)]:=by
 unfold iW;rw [List.map_append];rfl
set_option maxHeartbeats 4000000 in
theorem OU (s:W) (hs:s.length≤1000000) (h2:2≤s.length) (hy:x9 s=jW (inner s 1)):WK Tryz.prog 0 (aC Wn 0) (Nz s [] (1:Nat)).den (RF s):=by
 have ok:=aS Lu;refine WK.rec' (fun p:W×Nat=>Nz s (iW p.1) (p.2:Nat)) (fun p=>1≤p.2∧p.2≤s.length-1∧p.1.length≤p.2∧x9 s=(jW ((s.take (s.length-1)).drop p.2)).map (p.1 ++ ·)) (fun p=>s.length-p.2) ?_ ([],1) ⟨by omega,by simp only;omega,by simp,by rw [hy];simp [inner]⟩
 rintro ⟨pre,i⟩ ⟨hi1,hi,hl,hb⟩ ih
 simp only at hi1 hi hl hb;have wr:IntKind.i64.wrap ((Nat.cast (R:=Int) s.length)-1)=((s.length-1:Nat):Int):=by rw [fF _ (by omega)];omega
 have wi:IntKind.i64.wrap ((Nat.cast (R:=Int) i)+1)=((i+1:Nat):Int):=by rw [fF _ (by omega)];omega
 have c9:∀c:Int,decide (((iW pre).length+[DV.int .u8 c].length)*1≤2 ^ 38)=true:=fun c=>decide_eq_true (by unfold iW;rw [List.length_map];simp only [List.length_cons,List.length_nil];omega);by_cases he:i < s.length-1
 ·have ci:=Qs (n:=s.length) (i:=i) (by omega);obtain ⟨a,ha⟩:∃a,s[i]? = some a:=⟨_,List.getElem?_eq_getElem (by omega)⟩;have v1:=Ht ha;have hd:(s.take (s.length-1)).drop i=a::(s.take (s.length-1)).drop (i+1):=drop1 (by rw [take_at he];exact ha);rw [hd] at hb;by_cases HY:a=39
  ·by_cases hz:i+1=s.length-1
   ·have hq:x9 s=none:=by rw [hb,qP (by omega),HY,I9];rfl
    exact WK.fin ok 1000 0 [(29,ak true),(31,fZ (a.toNat:Int)),(33,ak true),(39,ak true),(44,ak true),(45,ak true)] [true,true,decide (0≤(i:Int)∧(i:Int) < ((List.length s:Nat):Int))] [(ak (decide ((i:Int) < IntKind.i64.wrap (((List.length s:Nat):Int)-1))),ak true),(fZ ((List.getD s (i:Int).toNat (0:UInt8)).toNat:Int),fZ (a.toNat:Int)),(ak ((a.toNat:Int)==39),ak true),(ak (IntKind.i64.wrap ((i:Int)+1)==IntKind.i64.wrap (((List.length s:Nat):Int)-1)),ak true),(ak true,ak true),(ak true,ak true)] rfl (by kernel_rfl:aA (bZ NA) true _ 1000 0 _ _ (Nz s (iW pre) (i:Nat))=some (RV.bI [bH [],ak false],[],_,_)) (by refine ⟨?_,?_,?_,trivial⟩<;>(first | rfl | exact ci)) (by refine ⟨?_,?_,?_,?_,?_,?_,trivial⟩<;>(first | exact ah rfl | exact v1 | exact ah (RG HY) | exact ah (by rw [wr];exact decide_eq_true (by omega)) | exact ah (by rw [wr,wi];exact beq_iff_eq.2 (by omega)))) ⟨by rw [hq];rfl,rfl⟩
   ·have hi2:i+1 < s.length-1:=by omega
    obtain ⟨b,hb1⟩:∃b,s[i+1]? = some b:=⟨_,List.getElem?_eq_getElem (by omega)⟩;have v2:=Ea (i:=i) (by omega) hb1;have c2:=Lm (n:=s.length) (i:=i) (by omega) (by omega);have hd2:(s.take (s.length-1)).drop (i+1)=b::(s.take (s.length-1)).drop (i+2):=drop1 (by rw [take_at hi2];exact hb1);rw [hd2,HY] at hb;by_cases OV:b=39
    ·rw [OV,Ja,Option.map_map] at hb
     have hk2:=ih (pre++[a],i+2) ⟨by simp only;omega,by simp only;omega,by rw [List.length_append];simp only [List.length_cons,List.length_nil];omega,by
      rw [hb];congr 1;funext q;simp [HY]⟩ (by simp only;omega)
     have e6:((i+2:Nat):Int)=IntKind.i64.wrap (IntKind.i64.wrap ((Nat.cast (R:=Int) i)+1)+1):=by rw [wi,fF _ (by omega)];omega
     simp only at hk2;rw [tq,e6] at hk2;refine WK.dZ ok 1000 0 [(29,ak true),(31,fZ (a.toNat:Int)),(33,ak true),(39,ak false),(42,fZ (b.toNat:Int)),(43,ak false),(44,ak false),(45,ak false)] [] [1,4,5,6] [true,true,decide (0≤(i:Int)∧(i:Int) < ((List.length s:Nat):Int)),true,true,decide (0≤IntKind.i64.wrap ((i:Int)+1)∧IntKind.i64.wrap ((i:Int)+1) < ((List.length s:Nat):Int)),decide (((iW pre).length+[aU (a.toNat:Int)].length)*Go.Proofs.Tryz.prog.types[5].bytes≤2 ^ 38)] [(ak (decide ((i:Int) < IntKind.i64.wrap (((List.length s:Nat):Int)-1))),ak true),(fZ ((List.getD s (i:Int).toNat (0:UInt8)).toNat:Int),fZ (a.toNat:Int)),(ak ((a.toNat:Int)==39),ak true),(ak (IntKind.i64.wrap ((i:Int)+1)==IntKind.i64.wrap (((List.length s:Nat):Int)-1)),ak false),(fZ ((List.getD s (IntKind.i64.wrap ((i:Int)+1)).toNat (0:UInt8)).toNat:Int),fZ (b.toNat:Int)),(ak ((b.toNat:Int) != 39),ak false),(ak false,ak false),(ak false,ak false)] rfl (by kernel_rfl:bg (bZ NA) 1000 0 _ _ _ _ (Nz s (iW pre) (i:Nat))=some (aC Wn 0,Nz s (iW pre++[.int .u8 (a.toNat:Int)]) (IntKind.i64.wrap (IntKind.i64.wrap ((i:Int)+1)+1)),_,_)) (by refine ⟨?_,?_,?_,?_,?_,?_,?_,trivial⟩<;>(first | rfl | exact ci | exact c2 | exact c9 _)) (by refine ⟨?_,?_,?_,?_,?_,?_,?_,?_,trivial⟩<;>(first | exact ah rfl | exact v1 | exact v2 | exact ah (RG HY) | exact ah (OP OV) | exact ah (by rw [wr];exact decide_eq_true (by omega)) | exact ah (by rw [wr,wi];exact beq_false_of_ne (by omega)))) ?_
     exact hk2
    ·have hq:x9 s=none:=by rw [hb,Jb _ OV];rfl
     exact WK.fin ok 1000 0 [(29,ak true),(31,fZ (a.toNat:Int)),(33,ak true),(39,ak false),(42,fZ (b.toNat:Int)),(43,ak true),(44,ak true),(45,ak true)] [true,true,decide (0≤(i:Int)∧(i:Int) < ((List.length s:Nat):Int)),true,true,decide (0≤IntKind.i64.wrap ((i:Int)+1)∧IntKind.i64.wrap ((i:Int)+1) < ((List.length s:Nat):Int))] [(ak (decide ((i:Int) < IntKind.i64.wrap (((List.length s:Nat):Int)-1))),ak true),(fZ ((List.getD s (i:Int).toNat (0:UInt8)).toNat:Int),fZ (a.toNat:Int)),(ak ((a.toNat:Int)==39),ak true),(ak (IntKind.i64.wrap ((i:Int)+1)==IntKind.i64.wrap (((List.length s:Nat):Int)-1)),ak false),(fZ ((List.getD s (IntKind.i64.wrap ((i:Int)+1)).toNat (0:UInt8)).toNat:Int),fZ (b.toNat:Int)),(ak ((b.toNat:Int) != 39),ak true),(ak true,ak true),(ak true,ak true)] rfl (by kernel_rfl:aA (bZ NA) true _ 1000 0 _ _ (Nz s (iW pre) (i:Nat))=some (RV.bI [bH [],ak false],[],_,_)) (by refine ⟨?_,?_,?_,?_,?_,?_,trivial⟩<;>(first | rfl | exact ci | exact c2)) (by refine ⟨?_,?_,?_,?_,?_,?_,?_,?_,trivial⟩<;>(first | exact ah rfl | exact v1 | exact v2 | exact ah (RG HY) | exact ah (OQ OV) | exact ah (by rw [wr];exact decide_eq_true (by omega)) | exact ah (by rw [wr,wi];exact beq_false_of_ne (by omega)))) ⟨by rw [hq];rfl,rfl⟩
  ·rw [FQ _ HY,Option.map_map] at hb
   have hk2:=ih (pre++[a],i+1) ⟨by simp only;omega,by simp only;omega,by rw [List.length_append];simp only [List.length_cons,List.length_nil];omega,by
    rw [hb];congr 1;funext q;simp⟩ (by simp only;omega)
   simp only at hk2;rw [tq,←wi] at hk2;refine WK.dZ ok 1000 0 [(29,ak true),(31,fZ (a.toNat:Int)),(33,ak false),(45,ak false)] [] [1,4,5,6] [true,true,decide (0≤(i:Int)∧(i:Int) < ((List.length s:Nat):Int)),decide (((iW pre).length+[aU (a.toNat:Int)].length)*Go.Proofs.Tryz.prog.types[5].bytes≤2 ^ 38)] [(ak (decide ((i:Int) < IntKind.i64.wrap (((List.length s:Nat):Int)-1))),ak true),(fZ ((List.getD s (i:Int).toNat (0:UInt8)).toNat:Int),fZ (a.toNat:Int)),(ak ((a.toNat:Int)==39),ak false),(ak false,ak false)] rfl (by kernel_rfl:bg (bZ NA) 1000 0 _ _ _ _ (Nz s (iW pre) (i:Nat))=some (aC Wn 0,Nz s (iW pre++[.int .u8 (a.toNat:Int)]) (IntKind.i64.wrap ((i:Int)+1)),_,_)) (by refine ⟨?_,?_,?_,?_,trivial⟩<;>(first | rfl | exact ci | exact c9 _)) (by refine ⟨?_,?_,?_,?_,trivial⟩<;>(first | exact ah rfl | exact v1 | exact ah (Y3 HY) | exact ah (by rw [wr];exact decide_eq_true (by omega)))) ?_
   exact hk2
 ·have hq:x9 s=some pre:=by rw [hb,qP (by omega)];simp [jW]
  have c4:(iW pre).all DV.isByte=true:=xZ pre;exact WK.fin ok 1000 0 [(29,ak false)] [(iW pre).all DV.isByte] [(ak (decide ((i:Int) < IntKind.i64.wrap (((List.length s:Nat):Int)-1))),ak false)] rfl (by kernel_rfl:aA (bZ NA) true _ 1000 0 _ _ (Nz s (iW pre) (i:Nat))=some (RV.bI [bH (List.map DV.byte (iW pre)),ak true],[],_,_)) ⟨(by first | rfl | exact c4),trivial⟩ ⟨(by first | exact ah rfl | exact ah (by rw [wr];exact decide_eq_false (by omega))),trivial⟩ ⟨by rw [hq];simp only [D9,sW,Option.getD_some,Option.isSome_some],rfl⟩
set_option maxHeartbeats 2000000 in
theorem Y4 (s:W) (hs:s.length≤1000000):Go.Am.C Tryz.prog 77 [.d (.str s)] [] (fun r o=>r=D9 (x9 s)∧o=[]):=by
 have ok:=aS Lu;refine aY (fn:=Tryz.f77) (body:=Wn) true (by kernel_rfl) (by kernel_rfl) (by kernel_rfl) ?_;by_cases hl:s.length < 2
 ·have hq:=I8 hl;exact WK.fin ok 1000 0 [(10,ak true),(15,ak true),(23,ak true)] [] [(ak (decide (((List.length s:Nat):Int) < 2)),ak true),(ak true,ak true),(ak true,ak true)] rfl (by kernel_rfl:aA (bZ NA) true _ 1000 0 _ _ (dY 52 [.d (.str s)] [])=some (RV.bI [bH [],ak false],[],_,_)) trivial (by refine ⟨?_,?_,?_,trivial⟩<;>(first | exact ah rfl | exact ah (decide_eq_true (by omega)))) ⟨by rw [hq];rfl,rfl⟩
 ·obtain ⟨a,ha⟩:∃a,s[0]? = some a:=⟨_,List.getElem?_eq_getElem (by omega)⟩;obtain ⟨b,hb⟩:∃b,s[s.length-1]? = some b:=⟨_,List.getElem?_eq_getElem (by omega)⟩;have wr:IntKind.i64.wrap ((Nat.cast (R:=Int) s.length)-1)=((s.length-1:Nat):Int):=by rw [fF _ (by omega)];omega
  have c0:decide ((0:Int)≤0∧0 < (Nat.cast (R:=Int) s.length))=true:=decide_eq_true (by omega);have c1:decide ((0:Int)≤IntKind.i64.wrap ((Nat.cast (R:=Int) s.length)-1)∧IntKind.i64.wrap ((Nat.cast (R:=Int) s.length)-1) < (Nat.cast (R:=Int) s.length))=true:=by rw [wr];exact decide_eq_true (by omega)
  have v0:=Lv ha;have v1:=Lx (by omega) hs hb;by_cases HY:a=39
  ·by_cases OV:b=39
   ·have hk:=OU s hs (by omega) (OO (by omega) ha hb HY OV);refine WK.dZ ok 1000 0 [(10,ak false),(13,fZ (a.toNat:Int)),(14,ak false),(15,ak false),(21,fZ (b.toNat:Int)),(22,ak false),(23,ak false)] [(4,250,bT,1)] [1,4,5,6] [decide ((0:Int)≤0∧(0:Int) < ((List.length s:Nat):Int)),decide (0≤IntKind.i64.wrap (((List.length s:Nat):Int)-1)∧IntKind.i64.wrap (((List.length s:Nat):Int)-1) < ((List.length s:Nat):Int))] [(ak (decide (((List.length s:Nat):Int) < 2)),ak false),(fZ ((List.getD s 0 (0:UInt8)).toNat:Int),fZ (a.toNat:Int)),(ak ((a.toNat:Int) != 39),ak false),(ak false,ak false),(fZ ((List.getD s (IntKind.i64.wrap (((List.length s:Nat):Int)-1)).toNat (0:UInt8)).toNat:Int),fZ (b.toNat:Int)),(ak ((b.toNat:Int) != 39),ak false),(ak false,ak false)] rfl (by kernel_rfl:bg (bZ NA) 1000 0 _ _ _ _ (dY 52 [.d (.str s)] [])=some (aC Wn 0,Nz s (iW []) (1:Nat),_,_)) (by refine ⟨?_,?_,trivial⟩<;>(first | rfl | exact c0 | exact c1)) (by refine ⟨?_,?_,?_,?_,?_,?_,?_,trivial⟩<;>(first | exact ah rfl | exact v0 | exact v1 | exact ah (OP HY) | exact ah (OP OV) | exact ah (decide_eq_false (by omega)))) ?_
    exact hk
   ·have hq:=Lr ha hb (fun h=>OV h.2);exact WK.fin ok 1000 0 [(10,ak false),(13,fZ (a.toNat:Int)),(14,ak false),(15,ak false),(21,fZ (b.toNat:Int)),(22,ak true),(23,ak true)] [decide ((0:Int)≤0∧(0:Int) < ((List.length s:Nat):Int)),decide (0≤IntKind.i64.wrap (((List.length s:Nat):Int)-1)∧IntKind.i64.wrap (((List.length s:Nat):Int)-1) < ((List.length s:Nat):Int))] [(ak (decide (((List.length s:Nat):Int) < 2)),ak false),(fZ ((List.getD s 0 (0:UInt8)).toNat:Int),fZ (a.toNat:Int)),(ak ((a.toNat:Int) != 39),ak false),(ak false,ak false),(fZ ((List.getD s (IntKind.i64.wrap (((List.length s:Nat):Int)-1)).toNat (0:UInt8)).toNat:Int),fZ (b.toNat:Int)),(ak ((b.toNat:Int) != 39),ak true),(ak true,ak true)] rfl (by kernel_rfl:aA (bZ NA) true _ 1000 0 _ _ (dY 52 [.d (.str s)] [])=some (RV.bI [bH [],ak false],[],_,_)) (by refine ⟨?_,?_,trivial⟩<;>(first | rfl | exact c0 | exact c1)) (by refine ⟨?_,?_,?_,?_,?_,?_,?_,trivial⟩<;>(first | exact ah rfl | exact v0 | exact v1 | exact ah (OP HY) | exact ah (OQ OV) | exact ah (decide_eq_false (by omega)))) ⟨by rw [hq];rfl,rfl⟩
  ·have hq:=Lr ha hb (fun h=>HY h.1);exact WK.fin ok 1000 0 [(10,ak false),(13,fZ (a.toNat:Int)),(14,ak true),(15,ak true),(23,ak true)] [decide ((0:Int)≤0∧(0:Int) < ((List.length s:Nat):Int))] [(ak (decide (((List.length s:Nat):Int) < 2)),ak false),(fZ ((List.getD s 0 (0:UInt8)).toNat:Int),fZ (a.toNat:Int)),(ak ((a.toNat:Int) != 39),ak true),(ak true,ak true),(ak true,ak true)] rfl (by kernel_rfl:aA (bZ NA) true _ 1000 0 _ _ (dY 52 [.d (.str s)] [])=some (RV.bI [bH [],ak false],[],_,_)) ⟨(by first | rfl | exact c0),trivial⟩ (by refine ⟨?_,?_,?_,?_,?_,trivial⟩<;>(first | exact ah rfl | exact v0 | exact ah (OQ HY) | exact ah (decide_eq_false (by omega)))) ⟨by rw [hq];rfl,rfl⟩
def Y5:DV→Option (RV×List Bool)
 | .str s=>some (D9 (x9 s),[decide (s.length≤1000000)])
 | _=>none
theorem RH:bU Tryz.prog 77 (Ce Y5):=by
 refine oI fun x y c hg hc=>?_;unfold Y5 at hg;split at hg
 ·rename_i s;simp only [Option.some.injEq,Prod.mk.injEq] at hg;obtain ⟨rfl,rfl⟩:=hg;exact Y4 s (of_decide_eq_true (hc _ (by simp:decide (s.length≤1000000)∈[decide (s.length≤1000000)])))
 ·cases hg
end Go.Proofs.YtjoefbioobdinaaGreatDoor
namespace Go.Proofs.YtjoefbioobdinaaGreatDoor
open Go.RowKit Am
open Go.aR hiding cut intOf take split
set_option maxRecDepth 100000
set_option linter.unusedVariables false
def Eb (s:W):Int:=match Lib.parseIntB 64 s with
 | .ok n=>n
 | .range=>Lib.intSat 64 s
 | _=>0
def Y6:DV→Option (DV×List Bool)
 | .str s=>some (.bI [.int .i64 (Eb s),.bool (aR.intOf s).isSome],[decide (s.length≤1000000)])
 | _=>none
theorem LB {κ:bn} {w:World} (h:Ay κ w) {g:Nat} (hg:(g,uL)∈Gl.gl) {nm:String} (hn:Tryz.prog.globalNamed nm=some g):∃te pe,w.var? Tryz.prog nm=some #[.iface te pe]:=by
 obtain ⟨_,c,ty,fz,h2,te,pe,h3⟩:=h.gl _ hg;have h2:w.heap[g]? = _:=h2;subst h3;exact ⟨te,pe,by unfold World.var?;rw [hn];simp only [Option.bind_some,h2]⟩
theorem Ec {s:W} (h:∀n,Lib.parseIntB 64 s≠.ok n):aR.intOf s=none:=by
 cases hn:aR.intOf s with
 | none=>rfl
 | some n=>exact absurd (by rw [Lib.parseIntB_64];exact (aR.mV.1 hn).1) (h n)
set_option maxHeartbeats 1000000 in
theorem RI (s:W) (hs:s.length≤1000000) (n:Int) (h:Lib.parseIntB 64 s = .ok n) (w:World) (ht:Lib.TabIs Tryz.prog w "internal/strconv.uint64pow10" .u64 Lib.pow10Tab) :
 Calls Tryz.prog 78 #[.string ⟨s.toArray⟩] w fun e w'=>e = .returned (.tuple #[.int .i64 n,.bool (Lib.itoa n==s)])∧Below w.heap.size w w':=by
 have hz:(ByteArray.mk s.toArray).size=s.length:=by simp [ByteArray.size]
 have hb:=Lib.parseIntB_bounds h;have HP:=Lib.hid (Tryz.strconv_ParseInt_10_at64_ok ⟨s.toArray⟩ (by omega) n h w)
 have HF:=Lib.hid (fun (w1:World) (hw:w1=w∨∃t,w1=Lib.bytesWorld w 5 t)=>
  Tryz.strconv_FormatInt_10 n (by omega) (by omega) w1 (by
   rcases hw with rfl | ⟨t,rfl⟩
   ·exact ht
   ·exact Go.Joins.tab_stays xW ht (Lib.bytesWorld_below w _ t) (Nat.le_refl _)))
 have HB:=Lib.hid (fun (w1:World) (hw:w1=w∨∃t,w1=Lib.bytesWorld w 5 t)=>show Below w.heap.size w w1 from by
  rcases hw with rfl | ⟨t,rfl⟩
  ·exact Below.refl _ _
  ·exact Lib.bytesWorld_below w _ t)
 generalize Lib.itoa n=q at *;clear hb h ht hz hs
 go_enter Tryz.func78,Tryz.ntmps78
 go_wp2_with (first
  | (go_at_call 138;refine HP.out.mono ?_;rintro e w1 ⟨rfl,b1⟩)
  | (go_at_call 128;refine (HF.out _ b1).mono ?_;rintro e w2 ⟨rfl,k,os,rfl⟩))
 go_ret2
 exact ⟨rfl,(HB.out _ b1).trans (Lib.below_grow _ _ (HB.out _ b1).size k os)⟩
set_option maxHeartbeats 1000000 in
theorem HZ (s:W) (v:Int) (w:World) (hp:Calls Tryz.prog 138 #[.string ⟨s.toArray⟩,.int .i64 10,.int .i64 64] w fun e w'=>∃T p,e = .returned (.tuple #[.int .i64 v,.iface T p])∧Below w.heap.size w w') :
 Calls Tryz.prog 78 #[.string ⟨s.toArray⟩] w fun e w'=>e = .returned (.tuple #[.int .i64 v,.bool false])∧Below w.heap.size w w':=by
 have HP:=Lib.hid hp;clear hp
 go_enter Tryz.func78,Tryz.ntmps78
 go_wp2_with (first
  | (go_at_call 138;refine HP.out.mono ?_;rintro e w1 ⟨T,p,rfl,b1⟩))
 go_ret2
 exact ⟨rfl,b1⟩
theorem RJ:bU Tryz.prog 78 (e1 Y6):=by
 refine xP fun x y c hg hc=>?_;unfold Y6 at hg;split at hg
 ·rename_i s;simp only [Option.some.injEq,Prod.mk.injEq] at hg;obtain ⟨rfl,rfl⟩:=hg;have hs:=of_decide_eq_true (hc (decide (s.length≤1000000)) (by simp));have hz:(ByteArray.mk s.toArray).size=s.length:=by simp [ByteArray.size]
  refine BK (args:=[.str s]) (us:=[.string ⟨s.toArray⟩]) (v:=.tuple #[.int .i64 (Eb s),.bool (aR.intOf s).isSome]) rfl rfl fun κ w hb=>?_;cases h:Lib.parseIntB 64 s with
  | ok n=>
    have e1:Eb s=n:=by unfold Eb;rw [h]
    have e2:(aR.intOf s).isSome=(Lib.itoa n==s):=by
     rw [Lib.parseIntB_64] at h;by_cases hq:Lib.itoa n=s
     ·rw [aR.mV.2 ⟨h,hq⟩,hq];simp
     ·have:aR.intOf s=none:=by
       cases hn:aR.intOf s with
       | none=>rfl
       | some m=>
         obtain ⟨h1,h2⟩:=aR.mV.1 hn;rw [h] at h1;injection h1 with h1;exact absurd (h1▸h2) hq
      rw [this,beq_false_of_ne hq];rfl
    rw [e1,e2];exact RI s hs n h w (KZ hb)
  | range=>
    have e1:Eb s=Lib.intSat 64 s:=by unfold Eb;rw [h]
    have e2:aR.intOf s=none:=Ec (by intro n;rw [h];simp);rw [e1,e2];obtain ⟨te,pe,hv⟩:=LB hb Rm DY;refine HZ s (Lib.intSat 64 s) w ((Tryz.strconv_ParseInt_10_at64_range_var ⟨s.toArray⟩ (by omega) h te pe w hv).mono ?_)
    rintro e w' ⟨N,rfl,_,_,hw⟩
    exact ⟨_,_,rfl,hw⟩
  | _=>
    have e1:Eb s=0:=by unfold Eb;rw [h]
    have e2:aR.intOf s=none:=Ec (by intro n;rw [h];simp);rw [e1,e2];obtain ⟨te,pe,hv⟩:=LB hb Rl DX;refine HZ s 0 w ((Tryz.strconv_ParseInt_10_at64_syntax_var ⟨s.toArray⟩ (by omega) h te pe w hv).mono ?_)
    rintro e w' ⟨N,rfl,_,_,hw⟩
    exact ⟨_,_,rfl,hw⟩
 ·cases hg
end Go.Proofs.YtjoefbioobdinaaGreatDoor
namespace Go.Proofs.YtjoefbioobdinaaGreatDoor
open Go.RowKit Am
open Go.aR hiding cut intOf take split
set_option maxRecDepth 100000
set_option linter.unusedVariables false
set_option linter.unusedSimpArgs false
noncomputable abbrev Y7:Code:=dS Tryz.f79
noncomputable abbrev vrC:Code:=dS Tryz.f37
noncomputable abbrev ciC:Code:=dS Tryz.f20
noncomputable abbrev flC:Code:=dS Tryz.f17
theorem ck1 (n:Int):Go.Am.C Tryz.prog 79 [.d (.agg [.int .u8 1,.int .i64 n,.str []])] [] (fun r o=>r = .d (.int .i64 0)∧o=[]):=by
 have ok:=oH (l:=[]) .nil 1;refine aY (fn:=Tryz.f79) (body:=Y7) true (by kernel_rfl) (by kernel_rfl) (by kernel_rfl) ?_;exact WK.fin ok 1000 0 [(11,ak false),(15,ak false)] [] [(ak (match decide (3 < 1) with | true=>true | false=>!(1==1&&(n==n&&([]==([]:List UInt8)&&true)))),ak false),(ak false,ak false)] rfl (by kernel_rfl:aA (Hr [] 1) true _ 1000 0 _ _ (dY 16 [.d (.agg [.int .u8 1,.int .i64 n,.str []])] [])=some (aP (0),[],_,_)) trivial (by refine ⟨?_,?_,trivial⟩<;>(first | exact ah rfl | exact ah (by simp))) ⟨rfl,rfl⟩
theorem ck2 (s:W):Go.Am.C Tryz.prog 79 [.d (.agg [.int .u8 2,.int .i64 0,.str s])] [] (fun r o=>r = .d (.int .i64 (if s.length≤1000 then 0 else 3))∧o=[]):=by
 have ok:=oH (l:=[]) .nil 1;refine aY (fn:=Tryz.f79) (body:=Y7) true (by kernel_rfl) (by kernel_rfl) (by kernel_rfl) ?_;by_cases h:s.length≤1000
 ·skip
  exact WK.fin ok 1000 0 [(11,ak false),(15,ak false)] [] [(ak (match decide (3 < 2) with | true=>true | false=>!(2==2&&(0==0&&(s==s&&true)))),ak false),(ak (decide (1000 < ((List.length s:Nat):Int))),ak false)] rfl (by kernel_rfl:aA (Hr [] 1) true _ 1000 0 _ _ (dY 16 [.d (.agg [.int .u8 2,.int .i64 0,.str s])] [])=some (aP (0),[],_,_)) trivial (by refine ⟨?_,?_,trivial⟩<;>(first | exact ah (decide_eq_false (by omega)) | exact ah (by simp))) ⟨by rw [if_pos h],rfl⟩
 ·skip
  exact WK.fin ok 1000 0 [(11,ak false),(15,ak true)] [] [(ak (match decide (3 < 2) with | true=>true | false=>!(2==2&&(0==0&&(s==s&&true)))),ak false),(ak (decide (1000 < ((List.length s:Nat):Int))),ak true)] rfl (by kernel_rfl:aA (Hr [] 1) true _ 1000 0 _ _ (dY 16 [.d (.agg [.int .u8 2,.int .i64 0,.str s])] [])=some (aP (3),[],_,_)) trivial (by refine ⟨?_,?_,trivial⟩<;>(first | exact ah (decide_eq_true (by omega)) | exact ah (by simp))) ⟨by rw [if_neg h],rfl⟩
theorem Qx (s:W):Go.Am.C Tryz.prog 79 [.d (.agg [.int .u8 3,.int .i64 0,.str s])] [] (fun r o=>r = .d (.int .i64 (if s.length≤1000 then 0 else 3))∧o=[]):=by
 have ok:=oH (l:=[]) .nil 1;refine aY (fn:=Tryz.f79) (body:=Y7) true (by kernel_rfl) (by kernel_rfl) (by kernel_rfl) ?_;by_cases h:s.length≤1000
 ·skip
  exact WK.fin ok 1000 0 [(11,ak false),(15,ak false)] [] [(ak (match decide (3 < 3) with | true=>true | false=>!(3==3&&(0==0&&(s==s&&true)))),ak false),(ak (decide (1000 < ((List.length s:Nat):Int))),ak false)] rfl (by kernel_rfl:aA (Hr [] 1) true _ 1000 0 _ _ (dY 16 [.d (.agg [.int .u8 3,.int .i64 0,.str s])] [])=some (aP (0),[],_,_)) trivial (by refine ⟨?_,?_,trivial⟩<;>(first | exact ah (decide_eq_false (by omega)) | exact ah (by simp))) ⟨by rw [if_pos h],rfl⟩
 ·skip
  exact WK.fin ok 1000 0 [(11,ak false),(15,ak true)] [] [(ak (match decide (3 < 3) with | true=>true | false=>!(3==3&&(0==0&&(s==s&&true)))),ak false),(ak (decide (1000 < ((List.length s:Nat):Int))),ak true)] rfl (by kernel_rfl:aA (Hr [] 1) true _ 1000 0 _ _ (dY 16 [.d (.agg [.int .u8 3,.int .i64 0,.str s])] [])=some (aP (3),[],_,_)) trivial (by refine ⟨?_,?_,trivial⟩<;>(first | exact ah (decide_eq_true (by omega)) | exact ah (by simp))) ⟨by rw [if_neg h],rfl⟩
def Y8:DV→Option (DV×List Bool)
 | .agg [.int .u8 (.ofNat 1),.int .i64 n,.str []]=>some (.int .i64 0,[])
 | .agg [.int .u8 (.ofNat 2),.int .i64 (.ofNat 0),.str s]=>some (.int .i64 (if s.length≤1000 then 0 else 3),[])
 | .agg [.int .u8 (.ofNat 3),.int .i64 (.ofNat 0),.str s]=>some (.int .i64 (if s.length≤1000 then 0 else 3),[])
 | _=>none
theorem RN:bU Tryz.prog 79 (e1 Y8):=by
 refine xP fun x y c hg hc=>?_;unfold Y8 at hg;split at hg
 ·simp only [Option.some.injEq,Prod.mk.injEq] at hg;obtain ⟨rfl,rfl⟩:=hg;exact ck1 _
 ·simp only [Option.some.injEq,Prod.mk.injEq] at hg;obtain ⟨rfl,rfl⟩:=hg;exact ck2 _
 ·simp only [Option.some.injEq,Prod.mk.injEq] at hg;obtain ⟨rfl,rfl⟩:=hg;exact Qx _
 ·cases hg
noncomputable def H6:List (Nat×kg):=[(74,e2 YS),(75,e2 YT),(76,Ce Y1),(77,Ce Y5),(78,e1 Y6),(79,e1 Y8)]
theorem RO:dQ Tryz.prog H6:=.cons Rq (.cons Rt (.cons RB (.cons RH (.cons RJ (.cons RN .nil)))))
def vrR (v:VR):RV:=.bI [.d (.agg [.int .u8 v.1,.int .i64 v.2.1,.str v.2.2.1]),.d (.int .i64 v.2.2.2)]
theorem RP:vP 6 3 Ny=(0,0,[],0):=by unfold vP;rw [if_pos rfl]
theorem Y9 {s:W} (h0:s≠Ny) (h:Lib.hasPrefix s [120,39]=true∧Lib.hasSuffix s [39]=true∧2 < s.length):vP 6 3 s=Hu 3 6 3 (fU (inner s 2)):=by
 unfold vP;rw [if_neg h0,if_pos h]
theorem H7 {s:W} (h:Lib.hasPrefix s [39]=true):Lib.hasPrefix s [120,39]=false:=by
 cases s with
 | nil=>cases h
 | cons c r=>
   simp only [Lib.hasPrefix,List.isPrefixOf,Bool.and_true] at h
   have:=beq_iff_eq.1 h
   subst this;rfl
theorem Za {s:W} (h0:s≠Ny) (h:Lib.hasPrefix s [39]=true):vP 6 3 s=Hu 2 6 3 (x9 s):=by
 unfold vP;rw [if_neg h0,if_neg (by rw [H7 h];simp),if_pos h];unfold x9;simp only [h,true_and]
theorem Zb {s:W} (h0:s≠Ny) (h1:¬(Lib.hasPrefix s [120,39]=true∧Lib.hasSuffix s [39]=true∧2 < s.length)) (h:Lib.hasPrefix s [39]=false):vP 6 3 s=match aR.intOf s with
 | some n=>(1,n,[],0)
 | none=>(0,0,[],6):=by
 unfold vP;rw [if_neg h0,if_neg h1,if_neg (by rw [h];simp)];rfl
theorem RQ {s:W} (h:s≠Ny):(s==[(78:UInt8),(85:UInt8),(76:UInt8),(76:UInt8)])=false:=beq_false_of_ne h
theorem LC {s:W} {n:Int} (h:aR.intOf s=some n):Eb s=n:=by
 have:=(aR.mV.1 h).1
 unfold Eb;rw [Lib.parseIntB_64,this]
set_option maxHeartbeats 4000000 in
theorem Zc (s:W) (hs:s.length≤1000000):Go.Am.C Tryz.prog 37 [.d (.str s)] [] (fun r o=>r=vrR (vP 6 3 s)∧o=[]):=by
 have ok:=aS RO;refine aY (fn:=Tryz.f37) (body:=vrC) true (by kernel_rfl) (by kernel_rfl) (by kernel_rfl) ?_;by_cases h0:s=Ny
 ·subst h0;have hq:=RP;exact WK.fin ok 1000 0 [(17,ak true)] [] [(ak (Ny==[(78:UInt8),(85:UInt8),(76:UInt8),(76:UInt8)]),ak true)] rfl (by kernel_rfl:aA (bZ H6) true _ 1000 0 _ _ (dY 62 [.d (.str Ny)] [])=some (RV.bI [RV.d (DV.agg [aU (0),aI (0),DV.str []]),aP (0)],[],_,_)) trivial ⟨(by exact ah rfl),trivial⟩ ⟨by rw [hq];rfl,rfl⟩
 have e0:=RQ h0;have b1:Nat.ble s.length 1000000000=true:=Nat.ble_eq_true_of_le (by omega);have b2:decide (s.length≤1000000)=true:=decide_eq_true hs;by_cases hx:Lib.hasPrefix s [120,39]=true∧Lib.hasSuffix s [39]=true∧2 < s.length
 ·obtain ⟨x1,x2,x3⟩:=hx;have hv:=Y9 h0 ⟨x1,x2,x3⟩;have wr:IntKind.i64.wrap ((Nat.cast (R:=Int) s.length)-1)=((s.length-1:Nat):Int):=by rw [fF _ (by omega)];omega
  have c1:decide ((0:Int)≤IntKind.i64.wrap ((Nat.cast (R:=Int) s.length)-1)∧IntKind.i64.wrap ((Nat.cast (R:=Int) s.length)-1)≤(Nat.cast (R:=Int) s.length))=true:=by rw [wr];exact decide_eq_true (by omega)
  have c2:decide ((0:Int)≤2∧2≤(Nat.cast (R:=Int) (IntKind.i64.wrap ((Nat.cast (R:=Int) s.length)-1)).toNat))=true:=by rw [wr];exact decide_eq_true (by omega)
  obtain ⟨w,hw⟩:∃w,inner s 2=w:=⟨_,rfl⟩
  have e1:rR s (some 2) (some (IntKind.i64.wrap ((Nat.cast (R:=Int) s.length)-1)))=w:=by
   rw [wr];exact hw
  have c3:decide (w.length≤1000000)=true:=by
   apply decide_eq_true;rw [←hw];unfold inner;rw [List.length_drop,List.length_take];omega
  rw [hw] at hv;cases hb:fU w with
  | none=>
    rw [hb] at hv;exact WK.fin ok 1000 0 [(17,ak false),(21,ak true),(24,ak true),(29,ak true),(37,bH w),(39,bH []),(40,ak false)] [(List.length s).ble 1000000000,decide (0≤IntKind.i64.wrap (((List.length s:Nat):Int)-1)∧IntKind.i64.wrap (((List.length s:Nat):Int)-1)≤((List.length s:Nat):Int)),decide ((0:Int)≤2∧(2:Int)≤((IntKind.i64.wrap (((List.length s:Nat):Int)-1)).toNat:Int)),decide (List.length w≤1000000)] [(ak (s==[(78:UInt8),(85:UInt8),(76:UInt8),(76:UInt8)]),ak false),(ak (Go.Lib.hasPrefix s [(120:UInt8),(39:UInt8)]),ak true),(ak (Go.Lib.hasSuffix s [(39:UInt8)]),ak true),(ak (decide (2 < ((List.length s:Nat):Int))),ak true),(bH (rR s (Option.some (2)) (Option.some (IntKind.i64.wrap (((List.length s:Nat):Int)-1)))),bH w),(bH ((Go.aR.fU w).getD []),bH []),(ak (Go.aR.fU w).isSome,ak false)] rfl (by kernel_rfl:aA (bZ H6) true _ 1000 0 _ _ (dY 62 [.d (.str s)] [])=some (RV.bI [RV.d (DV.agg [aU (0),aI (0),DV.str []]),aP (6)],[],_,_)) (by refine ⟨?_,?_,?_,?_,trivial⟩<;>(first | rfl | exact b1 | exact c1 | exact c2 | exact c3)) (by refine ⟨?_,?_,?_,?_,?_,?_,?_,trivial⟩<;>(first | exact ah e0 | exact ah x1 | exact ah x2 | exact ah (decide_eq_true (by omega)) | exact .of_eq (by rw [e1]) | exact .of_eq (by rw [hb];rfl))) ⟨by rw [hv];rfl,rfl⟩
  | some b=>
    rw [hb] at hv;by_cases hl:b.length≤1000
    ·have hq:vP 6 3 s=(3,0,b,0):=by rw [hv];simp only [Hu];rw [if_pos hl]
     have e9:(if b.length≤1000 then (0:Int) else 3)=0:=if_pos hl;exact WK.fin ok 1000 0 [(17,ak false),(21,ak true),(24,ak true),(29,ak true),(37,bH w),(39,bH b),(40,ak true),(56,aP (0))] [(List.length s).ble 1000000000,decide (0≤IntKind.i64.wrap (((List.length s:Nat):Int)-1)∧IntKind.i64.wrap (((List.length s:Nat):Int)-1)≤((List.length s:Nat):Int)),decide ((0:Int)≤2∧(2:Int)≤((IntKind.i64.wrap (((List.length s:Nat):Int)-1)).toNat:Int)),decide (List.length w≤1000000)] [(ak (s==[(78:UInt8),(85:UInt8),(76:UInt8),(76:UInt8)]),ak false),(ak (Go.Lib.hasPrefix s [(120:UInt8),(39:UInt8)]),ak true),(ak (Go.Lib.hasSuffix s [(39:UInt8)]),ak true),(ak (decide (2 < ((List.length s:Nat):Int))),ak true),(bH (rR s (Option.some (2)) (Option.some (IntKind.i64.wrap (((List.length s:Nat):Int)-1)))),bH w),(bH ((Go.aR.fU w).getD []),bH b),(ak (Go.aR.fU w).isSome,ak true),(aP (if List.length b≤1000 then (0:Int) else 3),aP (0))] rfl (by kernel_rfl:aA (bZ H6) true _ 1000 0 _ _ (dY 62 [.d (.str s)] [])=some (RV.bI [RV.d (DV.agg [aU (3),aI (0),DV.str b]),aP (0)],[],_,_)) (by refine ⟨?_,?_,?_,?_,trivial⟩<;>(first | rfl | exact b1 | exact c1 | exact c2 | exact c3)) (by refine ⟨?_,?_,?_,?_,?_,?_,?_,?_,trivial⟩<;>(first | exact ah e0 | exact ah x1 | exact ah x2 | exact ah (decide_eq_true (by omega)) | exact .of_eq (by rw [e1]) | exact .of_eq (by rw [hb];rfl) | exact .of_eq (by rw [e9]))) ⟨by rw [hq];rfl,rfl⟩
    ·have hq:vP 6 3 s=(0,0,[],3):=by rw [hv];simp only [Hu];rw [if_neg hl]
     have e9:(if b.length≤1000 then (0:Int) else 3)=3:=if_neg hl;exact WK.fin ok 1000 0 [(17,ak false),(21,ak true),(24,ak true),(29,ak true),(37,bH w),(39,bH b),(40,ak true),(56,aP (3))] [(List.length s).ble 1000000000,decide (0≤IntKind.i64.wrap (((List.length s:Nat):Int)-1)∧IntKind.i64.wrap (((List.length s:Nat):Int)-1)≤((List.length s:Nat):Int)),decide ((0:Int)≤2∧(2:Int)≤((IntKind.i64.wrap (((List.length s:Nat):Int)-1)).toNat:Int)),decide (List.length w≤1000000)] [(ak (s==[(78:UInt8),(85:UInt8),(76:UInt8),(76:UInt8)]),ak false),(ak (Go.Lib.hasPrefix s [(120:UInt8),(39:UInt8)]),ak true),(ak (Go.Lib.hasSuffix s [(39:UInt8)]),ak true),(ak (decide (2 < ((List.length s:Nat):Int))),ak true),(bH (rR s (Option.some (2)) (Option.some (IntKind.i64.wrap (((List.length s:Nat):Int)-1)))),bH w),(bH ((Go.aR.fU w).getD []),bH b),(ak (Go.aR.fU w).isSome,ak true),(aP (if List.length b≤1000 then (0:Int) else 3),aP (3))] rfl (by kernel_rfl:aA (bZ H6) true _ 1000 0 _ _ (dY 62 [.d (.str s)] [])=some (RV.bI [RV.d (DV.agg [aU (0),aI (0),DV.str []]),aP (3)],[],_,_)) (by refine ⟨?_,?_,?_,?_,trivial⟩<;>(first | rfl | exact b1 | exact c1 | exact c2 | exact c3)) (by refine ⟨?_,?_,?_,?_,?_,?_,?_,?_,trivial⟩<;>(first | exact ah e0 | exact ah x1 | exact ah x2 | exact ah (decide_eq_true (by omega)) | exact .of_eq (by rw [e1]) | exact .of_eq (by rw [hb];rfl) | exact .of_eq (by rw [e9]))) ⟨by rw [hq];rfl,rfl⟩
 cases hp:Lib.hasPrefix s [39] with
 | true=>
   have x1:=H7 hp;have hv:=Za h0 hp;cases hb:x9 s with
   | none=>
     rw [hb] at hv;exact WK.fin ok 1000 0 [(17,ak false),(21,ak false),(44,ak true),(49,bH []),(50,ak false)] [decide (List.length s≤1000000)] [(ak (s==[(78:UInt8),(85:UInt8),(76:UInt8),(76:UInt8)]),ak false),(ak (Go.Lib.hasPrefix s [(120:UInt8),(39:UInt8)]),ak false),(ak (Go.Lib.hasPrefix s [(39:UInt8)]),ak true),(bH ((Go.aR.x9 s).getD []),bH []),(ak (Go.aR.x9 s).isSome,ak false)] rfl (by kernel_rfl:aA (bZ H6) true _ 1000 0 _ _ (dY 62 [.d (.str s)] [])=some (RV.bI [RV.d (DV.agg [aU (0),aI (0),DV.str []]),aP (6)],[],_,_)) ⟨(by first | rfl | exact b2),trivial⟩ (by refine ⟨?_,?_,?_,?_,?_,trivial⟩<;>(first | exact ah e0 | exact ah x1 | exact ah hp | exact .of_eq (by rw [hb];rfl))) ⟨by rw [hv];rfl,rfl⟩
   | some b=>
     rw [hb] at hv;by_cases hl:b.length≤1000
     ·have hq:vP 6 3 s=(2,0,b,0):=by rw [hv];simp only [Hu];rw [if_pos hl]
      have e9:(if b.length≤1000 then (0:Int) else 3)=0:=if_pos hl;exact WK.fin ok 1000 0 [(17,ak false),(21,ak false),(44,ak true),(49,bH b),(50,ak true),(56,aP (0))] [decide (List.length s≤1000000)] [(ak (s==[(78:UInt8),(85:UInt8),(76:UInt8),(76:UInt8)]),ak false),(ak (Go.Lib.hasPrefix s [(120:UInt8),(39:UInt8)]),ak false),(ak (Go.Lib.hasPrefix s [(39:UInt8)]),ak true),(bH ((Go.aR.x9 s).getD []),bH b),(ak (Go.aR.x9 s).isSome,ak true),(aP (if List.length b≤1000 then (0:Int) else 3),aP (0))] rfl (by kernel_rfl:aA (bZ H6) true _ 1000 0 _ _ (dY 62 [.d (.str s)] [])=some (RV.bI [RV.d (DV.agg [aU (2),aI (0),DV.str b]),aP (0)],[],_,_)) ⟨(by first | rfl | exact b2),trivial⟩ (by refine ⟨?_,?_,?_,?_,?_,?_,trivial⟩<;>(first | exact ah e0 | exact ah x1 | exact ah hp | exact .of_eq (by rw [hb];rfl) | exact .of_eq (by rw [e9]))) ⟨by rw [hq];rfl,rfl⟩
     ·have hq:vP 6 3 s=(0,0,[],3):=by rw [hv];simp only [Hu];rw [if_neg hl]
      have e9:(if b.length≤1000 then (0:Int) else 3)=3:=if_neg hl;exact WK.fin ok 1000 0 [(17,ak false),(21,ak false),(44,ak true),(49,bH b),(50,ak true),(56,aP (3))] [decide (List.length s≤1000000)] [(ak (s==[(78:UInt8),(85:UInt8),(76:UInt8),(76:UInt8)]),ak false),(ak (Go.Lib.hasPrefix s [(120:UInt8),(39:UInt8)]),ak false),(ak (Go.Lib.hasPrefix s [(39:UInt8)]),ak true),(bH ((Go.aR.x9 s).getD []),bH b),(ak (Go.aR.x9 s).isSome,ak true),(aP (if List.length b≤1000 then (0:Int) else 3),aP (3))] rfl (by kernel_rfl:aA (bZ H6) true _ 1000 0 _ _ (dY 62 [.d (.str s)] [])=some (RV.bI [RV.d (DV.agg [aU (0),aI (0),DV.str []]),aP (3)],[],_,_)) ⟨(by first | rfl | exact b2),trivial⟩ (by refine ⟨?_,?_,?_,?_,?_,?_,trivial⟩<;>(first | exact ah e0 | exact ah x1 | exact ah hp | exact .of_eq (by rw [hb];rfl) | exact .of_eq (by rw [e9]))) ⟨by rw [hq];rfl,rfl⟩
 | false=>
   have hv:=Zb h0 hx hp;obtain ⟨n,hn⟩:∃n,Eb s=n:=⟨_,rfl⟩;cases hi:aR.intOf s with
   | some m=>
     rw [hi] at hv;have hm:=LC hi;rw [hn] at hm;subst hm;cases x1:Lib.hasPrefix s [120,39] with
     | false=>
       exact WK.fin ok 1000 0 [(17,ak false),(21,ak false),(44,ak false),(12,aP n),(13,ak true)] [decide (List.length s≤1000000)] [(ak (s==[(78:UInt8),(85:UInt8),(76:UInt8),(76:UInt8)]),ak false),(ak (Go.Lib.hasPrefix s [(120:UInt8),(39:UInt8)]),ak false),(ak (Go.Lib.hasPrefix s [(39:UInt8)]),ak false),(aP (Go.Proofs.YtjoefbioobdinaaGreatDoor.Eb s),aP n),(ak (Go.aR.intOf s).isSome,ak true)] rfl (by kernel_rfl:aA (bZ H6) true _ 1000 0 _ _ (dY 62 [.d (.str s)] [])=some (RV.bI [RV.d (DV.agg [aU (1),aI n,DV.str []]),aP (0)],[],_,_)) ⟨(by first | rfl | exact b1 | exact b2),trivial⟩ (by refine ⟨?_,?_,?_,?_,?_,trivial⟩<;>(first | exact ah e0 | exact ah x1 | exact ah hp | exact .of_eq (by rw [hn]) | exact .of_eq (by rw [hi];rfl))) ⟨by rw [hv];rfl,rfl⟩
     | true=>
       cases x2:Lib.hasSuffix s [39] with
       | false=>
         exact WK.fin ok 1000 0 [(17,ak false),(21,ak true),(24,ak false),(44,ak false),(12,aP n),(13,ak true)] [(List.length s).ble 1000000000,decide (List.length s≤1000000)] [(ak (s==[(78:UInt8),(85:UInt8),(76:UInt8),(76:UInt8)]),ak false),(ak (Go.Lib.hasPrefix s [(120:UInt8),(39:UInt8)]),ak true),(ak (Go.Lib.hasSuffix s [(39:UInt8)]),ak false),(ak (Go.Lib.hasPrefix s [(39:UInt8)]),ak false),(aP (Go.Proofs.YtjoefbioobdinaaGreatDoor.Eb s),aP n),(ak (Go.aR.intOf s).isSome,ak true)] rfl (by kernel_rfl:aA (bZ H6) true _ 1000 0 _ _ (dY 62 [.d (.str s)] [])=some (RV.bI [RV.d (DV.agg [aU (1),aI n,DV.str []]),aP (0)],[],_,_)) (by refine ⟨?_,?_,trivial⟩<;>(first | rfl | exact b1 | exact b2)) (by refine ⟨?_,?_,?_,?_,?_,?_,trivial⟩<;>(first | exact ah e0 | exact ah x1 | exact ah x2 | exact ah hp | exact .of_eq (by rw [hn]) | exact .of_eq (by rw [hi];rfl))) ⟨by rw [hv];rfl,rfl⟩
       | true=>
         have x3:¬2 < s.length:=fun h=>hx ⟨x1,x2,h⟩;exact WK.fin ok 1000 0 [(17,ak false),(21,ak true),(24,ak true),(29,ak false),(44,ak false),(12,aP n),(13,ak true)] [(List.length s).ble 1000000000,decide (List.length s≤1000000)] [(ak (s==[(78:UInt8),(85:UInt8),(76:UInt8),(76:UInt8)]),ak false),(ak (Go.Lib.hasPrefix s [(120:UInt8),(39:UInt8)]),ak true),(ak (Go.Lib.hasSuffix s [(39:UInt8)]),ak true),(ak (decide (2 < ((List.length s:Nat):Int))),ak false),(ak (Go.Lib.hasPrefix s [(39:UInt8)]),ak false),(aP (Go.Proofs.YtjoefbioobdinaaGreatDoor.Eb s),aP n),(ak (Go.aR.intOf s).isSome,ak true)] rfl (by kernel_rfl:aA (bZ H6) true _ 1000 0 _ _ (dY 62 [.d (.str s)] [])=some (RV.bI [RV.d (DV.agg [aU (1),aI n,DV.str []]),aP (0)],[],_,_)) (by refine ⟨?_,?_,trivial⟩<;>(first | rfl | exact b1 | exact b2)) (by refine ⟨?_,?_,?_,?_,?_,?_,?_,trivial⟩<;>(first | exact ah e0 | exact ah x1 | exact ah x2 | exact ah hp | exact ah (decide_eq_false (by omega)) | exact .of_eq (by rw [hn]) | exact .of_eq (by rw [hi];rfl))) ⟨by rw [hv];rfl,rfl⟩
   | none=>
     rw [hi] at hv;cases x1:Lib.hasPrefix s [120,39] with
     | false=>
       exact WK.fin ok 1000 0 [(17,ak false),(21,ak false),(44,ak false),(12,aP n),(13,ak false)] [decide (List.length s≤1000000)] [(ak (s==[(78:UInt8),(85:UInt8),(76:UInt8),(76:UInt8)]),ak false),(ak (Go.Lib.hasPrefix s [(120:UInt8),(39:UInt8)]),ak false),(ak (Go.Lib.hasPrefix s [(39:UInt8)]),ak false),(aP (Go.Proofs.YtjoefbioobdinaaGreatDoor.Eb s),aP n),(ak (Go.aR.intOf s).isSome,ak false)] rfl (by kernel_rfl:aA (bZ H6) true _ 1000 0 _ _ (dY 62 [.d (.str s)] [])=some (RV.bI [RV.d (DV.agg [aU (0),aI (0),DV.str []]),aP (6)],[],_,_)) ⟨(by first | rfl | exact b1 | exact b2),trivial⟩ (by refine ⟨?_,?_,?_,?_,?_,trivial⟩<;>(first | exact ah e0 | exact ah x1 | exact ah hp | exact .of_eq (by rw [hn]) | exact .of_eq (by rw [hi];rfl))) ⟨by rw [hv];rfl,rfl⟩
     | true=>
       cases x2:Lib.hasSuffix s [39] with
       | false=>
         exact WK.fin ok 1000 0 [(17,ak false),(21,ak true),(24,ak false),(44,ak false),(12,aP n),(13,ak false)] [(List.length s).ble 1000000000,decide (List.length s≤1000000)] [(ak (s==[(78:UInt8),(85:UInt8),(76:UInt8),(76:UInt8)]),ak false),(ak (Go.Lib.hasPrefix s [(120:UInt8),(39:UInt8)]),ak true),(ak (Go.Lib.hasSuffix s [(39:UInt8)]),ak false),(ak (Go.Lib.hasPrefix s [(39:UInt8)]),ak false),(aP (Go.Proofs.YtjoefbioobdinaaGreatDoor.Eb s),aP n),(ak (Go.aR.intOf s).isSome,ak false)] rfl (by kernel_rfl:aA (bZ H6) true _ 1000 0 _ _ (dY 62 [.d (.str s)] [])=some (RV.bI [RV.d (DV.agg [aU (0),aI (0),DV.str []]),aP (6)],[],_,_)) (by refine ⟨?_,?_,trivial⟩<;>(first | rfl | exact b1 | exact b2)) (by refine ⟨?_,?_,?_,?_,?_,?_,trivial⟩<;>(first | exact ah e0 | exact ah x1 | exact ah x2 | exact ah hp | exact .of_eq (by rw [hn]) | exact .of_eq (by rw [hi];rfl))) ⟨by rw [hv];rfl,rfl⟩
       | true=>
         have x3:¬2 < s.length:=fun h=>hx ⟨x1,x2,h⟩;exact WK.fin ok 1000 0 [(17,ak false),(21,ak true),(24,ak true),(29,ak false),(44,ak false),(12,aP n),(13,ak false)] [(List.length s).ble 1000000000,decide (List.length s≤1000000)] [(ak (s==[(78:UInt8),(85:UInt8),(76:UInt8),(76:UInt8)]),ak false),(ak (Go.Lib.hasPrefix s [(120:UInt8),(39:UInt8)]),ak true),(ak (Go.Lib.hasSuffix s [(39:UInt8)]),ak true),(ak (decide (2 < ((List.length s:Nat):Int))),ak false),(ak (Go.Lib.hasPrefix s [(39:UInt8)]),ak false),(aP (Go.Proofs.YtjoefbioobdinaaGreatDoor.Eb s),aP n),(ak (Go.aR.intOf s).isSome,ak false)] rfl (by kernel_rfl:aA (bZ H6) true _ 1000 0 _ _ (dY 62 [.d (.str s)] [])=some (RV.bI [RV.d (DV.agg [aU (0),aI (0),DV.str []]),aP (6)],[],_,_)) (by refine ⟨?_,?_,trivial⟩<;>(first | rfl | exact b1 | exact b2)) (by refine ⟨?_,?_,?_,?_,?_,?_,?_,trivial⟩<;>(first | exact ah e0 | exact ah x1 | exact ah x2 | exact ah hp | exact ah (decide_eq_false (by omega)) | exact .of_eq (by rw [hn]) | exact .of_eq (by rw [hi];rfl))) ⟨by rw [hv];rfl,rfl⟩
def Zd:DV→Option (RV×List Bool)
 | .str s=>some (vrR (vP 6 3 s),[decide (s.length≤1000000)])
 | _=>none
theorem RS:bU Tryz.prog 37 (Ce Zd):=by
 refine oI fun x y c hg hc=>?_;unfold Zd at hg;split at hg
 ·rename_i s;simp only [Option.some.injEq,Prod.mk.injEq] at hg;obtain ⟨rfl,rfl⟩:=hg;exact Zc s (of_decide_eq_true (hc _ (by simp:decide (s.length≤1000000)∈[decide (s.length≤1000000)])))
 ·cases hg
noncomputable def NC:List (Nat×kg):=[(38,e2 YU),(21,e2 Yl),(37,Ce Zd)]
theorem RU:dQ Tryz.prog NC:=.cons Ru (.cons Lb (.cons RS .nil))
theorem Wo {s:W} {n:Int} (h:aR.intOf s=some n):Hw s=n∧JI s=0:=by
 unfold Hw JI y9;rw [h];exact ⟨rfl,rfl⟩
theorem Cj {s:W} (h:aR.intOf s=none) (h2:aR.trimmed s=[]∨(aR.trimmed s).head? = some 48∨¬(aR.trimmed s).all iN=true):Hw s=0∧JI s=6:=by
 have e:y9 s = .none:=by unfold y9;rw [h];exact if_pos h2
 unfold Hw JI;rw [e];exact ⟨rfl,rfl⟩
theorem LD {s:W} (h:aR.intOf s=none) (h2:¬(aR.trimmed s=[]∨(aR.trimmed s).head? = some 48∨¬(aR.trimmed s).all iN=true)):Hw s=0∧JI s=5:=by
 have e:y9 s = .range:=by unfold y9;rw [h];exact if_neg h2
 unfold Hw JI;rw [e];exact ⟨rfl,rfl⟩
theorem Wp {a:UInt8} (h:a=48):((Nat.cast (R:=Int) a.toNat)==48)=true:=by subst h;rfl
theorem OW {a:UInt8} (h:a≠48):((Nat.cast (R:=Int) a.toNat)==48)=false:=by
 refine beq_false_of_ne fun e=>h (UInt8.toNat_inj.1 ?_)
 have:a.toNat=48:=by omega
 exact this
set_option maxHeartbeats 4000000 in
theorem Ze (s:W) (hs:s.length≤1000000):Go.Am.C Tryz.prog 20 [.d (.str s)] [] (fun r o=>r = .bI [.d (.int .i64 (Hw s)),.d (.int .i64 (JI s))]∧o=[]):=by
 have ok:=aS RU;refine aY (fn:=Tryz.f20) (body:=ciC) true (by kernel_rfl) (by kernel_rfl) (by kernel_rfl) ?_;have b2:decide (s.length≤1000000)=true:=decide_eq_true hs;cases hi:aR.intOf s with
 | some n=>
   have hv:vP 6 3 s=(1,n,[],0):=Wi (by decide) (by decide) hi;obtain ⟨q1,q2⟩:=Wo hi;obtain ⟨z,hz⟩:∃z:W,z=[]:=⟨_,rfl⟩;exact WK.fin ok 1000 0 [(10,RV.d (DV.agg [aU (1),aI n,DV.str z])),(11,aP (0)),(18,ak true)] [decide (List.length s≤1000000)] [(RV.d (DV.agg [aU (Go.aR.vP (6) (3) s).1,aI (Go.aR.vP (6) (3) s).snd.1,DV.str (Go.aR.vP (6) (3) s).snd.snd.1]),RV.d (DV.agg [aU (1),aI n,DV.str z])),(aP (Go.aR.vP (6) (3) s).snd.snd.2,aP (0)),(ak (match 0==0 with | true=>1==1 | false=>false),ak true)] rfl (by kernel_rfl:aA (bZ NC) true _ 1000 0 _ _ (dY 35 [.d (.str s)] [])=some (RV.bI [aP n,aP (0)],[],_,_)) ⟨(by first | rfl | exact b2),trivial⟩ (by refine ⟨?_,?_,?_,trivial⟩<;>(first | exact ah rfl | exact .of_eq (by rw [hv,hz]) | exact .of_eq (by rw [hv]))) ⟨by rw [q1,q2],rfl⟩
 | none=>
   have hno:¬((vP 6 3 s).2.2.2=0∧(vP 6 3 s).1=1):=Wj (by decide) (by decide) hi;obtain ⟨v,hv⟩:∃v,vP 6 3 s=v:=⟨_,rfl⟩;rw [hv] at hno;obtain ⟨k,n,z,e⟩:=v;have hno:¬(e=0∧k=1):=hno;obtain ⟨t,ht⟩:∃t,aR.trimmed s=t:=⟨_,rfl⟩;have hT:Lib.trimPrefix s [45]=t:=ht
   have hl:t.length≤1000000:=by
    rw [←ht];unfold aR.trimmed Lib.trimPrefix;split
    ·rw [List.length_drop];omega
    ·exact hs
   cases t with
   | nil=>
     obtain ⟨q1,q2⟩:=Cj hi (.inl ht);rcases bo (e==0:Bool) with yc | yc
     ·skip
      exact WK.fin ok 1000 0 [(10,RV.d (DV.agg [aU k,aI n,DV.str z])),(11,aP e),(18,ak false),(22,bH []),(24,ak true),(14,ak true)] [decide (List.length s≤1000000)] [(RV.d (DV.agg [aU (Go.aR.vP (6) (3) s).1,aI (Go.aR.vP (6) (3) s).snd.1,DV.str (Go.aR.vP (6) (3) s).snd.snd.1]),RV.d (DV.agg [aU k,aI n,DV.str z])),(aP (Go.aR.vP (6) (3) s).snd.snd.2,aP e),(ak (e==0),ak true),(ak (k==1),ak false),(bH (Go.Lib.trimPrefix s [(45:UInt8)]),bH []),(ak true,ak true)] rfl (by kernel_rfl:aA (bZ NC) true _ 1000 0 _ _ (dY 35 [.d (.str s)] [])=some (RV.bI [aP (0),aP (6)],[],_,_)) ⟨(by first | rfl | exact b2),trivial⟩ (by refine ⟨?_,?_,ah yc,?_,?_,?_,trivial⟩<;>(first | exact ah rfl | exact .of_eq (by rw [hv]) | exact .of_eq (by rw [hT]) | exact ah (beq_false_of_ne (fun hh=>hno ⟨by simpa using yc,hh⟩)))) ⟨by rw [q1,q2],rfl⟩
     ·skip
      exact WK.fin ok 1000 0 [(10,RV.d (DV.agg [aU k,aI n,DV.str z])),(11,aP e),(18,ak false),(22,bH []),(24,ak true),(14,ak false)] [decide (List.length s≤1000000)] [(RV.d (DV.agg [aU (Go.aR.vP (6) (3) s).1,aI (Go.aR.vP (6) (3) s).snd.1,DV.str (Go.aR.vP (6) (3) s).snd.snd.1]),RV.d (DV.agg [aU k,aI n,DV.str z])),(aP (Go.aR.vP (6) (3) s).snd.snd.2,aP e),(ak (e==0),ak false),(ak false,ak false),(bH (Go.Lib.trimPrefix s [(45:UInt8)]),bH []),(ak true,ak true)] rfl (by kernel_rfl:aA (bZ NC) true _ 1000 0 _ _ (dY 35 [.d (.str s)] [])=some (RV.bI [aP (0),aP (6)],[],_,_)) ⟨(by first | rfl | exact b2),trivial⟩ (by refine ⟨?_,?_,ah yc,?_,?_,?_,trivial⟩<;>(first | exact ah rfl | exact .of_eq (by rw [hv]) | exact .of_eq (by rw [hT]) | exact ah (beq_false_of_ne (fun hh=>hno ⟨by simpa using yc,hh⟩)))) ⟨by rw [q1,q2],rfl⟩
   | cons c w=>
     have c0:decide ((0:Int)≤0∧0 < (Nat.cast (R:=Int) (c::w).length))=true:=decide_eq_true (by simp only [List.length_cons];omega);have b3:Nat.ble (c::w).length 1000000000=true:=Nat.ble_eq_true_of_le (by omega);by_cases h48:c=48
     ·obtain ⟨q1,q2⟩:=Cj hi (.inr (.inl (by rw [ht,h48];rfl)));rcases bo (e==0:Bool) with yc | yc
      ·skip
       exact WK.fin ok 1000 0 [(10,RV.d (DV.agg [aU k,aI n,DV.str z])),(11,aP e),(18,ak false),(22,bH (c::w)),(24,ak false),(27,fZ (c.toNat:Int)),(28,ak true),(14,ak true)] [decide (List.length s≤1000000),decide ((0:Int)≤0∧(0:Int) < ((c::w).length:Int))] [(RV.d (DV.agg [aU (Go.aR.vP (6) (3) s).1,aI (Go.aR.vP (6) (3) s).snd.1,DV.str (Go.aR.vP (6) (3) s).snd.snd.1]),RV.d (DV.agg [aU k,aI n,DV.str z])),(aP (Go.aR.vP (6) (3) s).snd.snd.2,aP e),(ak (e==0),ak true),(ak (k==1),ak false),(bH (Go.Lib.trimPrefix s [(45:UInt8)]),bH (c::w)),(ak false,ak false),(fZ (((c::w).getD 0 (0:UInt8)).toNat:Int),fZ (c.toNat:Int)),(ak ((c.toNat:Int)==48),ak true)] rfl (by kernel_rfl:aA (bZ NC) true _ 1000 0 _ _ (dY 35 [.d (.str s)] [])=some (RV.bI [aP (0),aP (6)],[],_,_)) (by refine ⟨?_,?_,trivial⟩<;>(first | rfl | exact c0 | exact b2)) (by refine ⟨?_,?_,ah yc,?_,?_,?_,?_,?_,trivial⟩<;>(first | exact ah rfl | exact .of_eq rfl | exact .of_eq (by rw [hv]) | exact .of_eq (by rw [hT]) | exact ah (Wp h48) | exact ah (beq_false_of_ne (fun hh=>hno ⟨by simpa using yc,hh⟩)))) ⟨by rw [q1,q2],rfl⟩
      ·skip
       exact WK.fin ok 1000 0 [(10,RV.d (DV.agg [aU k,aI n,DV.str z])),(11,aP e),(18,ak false),(22,bH (c::w)),(24,ak false),(27,fZ (c.toNat:Int)),(28,ak true),(14,ak false)] [decide (List.length s≤1000000),decide ((0:Int)≤0∧(0:Int) < ((c::w).length:Int))] [(RV.d (DV.agg [aU (Go.aR.vP (6) (3) s).1,aI (Go.aR.vP (6) (3) s).snd.1,DV.str (Go.aR.vP (6) (3) s).snd.snd.1]),RV.d (DV.agg [aU k,aI n,DV.str z])),(aP (Go.aR.vP (6) (3) s).snd.snd.2,aP e),(ak (e==0),ak false),(ak false,ak false),(bH (Go.Lib.trimPrefix s [(45:UInt8)]),bH (c::w)),(ak false,ak false),(fZ (((c::w).getD 0 (0:UInt8)).toNat:Int),fZ (c.toNat:Int)),(ak ((c.toNat:Int)==48),ak true)] rfl (by kernel_rfl:aA (bZ NC) true _ 1000 0 _ _ (dY 35 [.d (.str s)] [])=some (RV.bI [aP (0),aP (6)],[],_,_)) (by refine ⟨?_,?_,trivial⟩<;>(first | rfl | exact c0 | exact b2)) (by refine ⟨?_,?_,ah yc,?_,?_,?_,?_,?_,trivial⟩<;>(first | exact ah rfl | exact .of_eq rfl | exact .of_eq (by rw [hv]) | exact .of_eq (by rw [hT]) | exact ah (Wp h48) | exact ah (beq_false_of_ne (fun hh=>hno ⟨by simpa using yc,hh⟩)))) ⟨by rw [q1,q2],rfl⟩
     ·cases hd:(c::w).all iN with
      | false=>
        obtain ⟨q1,q2⟩:=Cj hi (.inr (.inr (by rw [ht,hd];simp)))
        have ht2:(!(Lib.trimS (c::w) ten==[]))=true:=by
         rw [Bool.not_eq_true',beq_false_of_ne];intro h;rw [D8.1 h] at hd;cases hd
        rcases bo (e==0:Bool) with yc | yc
        ·skip
         exact WK.fin ok 1000 0 [(10,RV.d (DV.agg [aU k,aI n,DV.str z])),(11,aP e),(18,ak false),(22,bH (c::w)),(24,ak false),(27,fZ (c.toNat:Int)),(28,ak false),(33,ak true),(14,ak true)] [decide (List.length s≤1000000),decide ((0:Int)≤0∧(0:Int) < ((c::w).length:Int)),(c::w).length.ble 1000000000,true,true] [(RV.d (DV.agg [aU (Go.aR.vP (6) (3) s).1,aI (Go.aR.vP (6) (3) s).snd.1,DV.str (Go.aR.vP (6) (3) s).snd.snd.1]),RV.d (DV.agg [aU k,aI n,DV.str z])),(aP (Go.aR.vP (6) (3) s).snd.snd.2,aP e),(ak (e==0),ak true),(ak (k==1),ak false),(bH (Go.Lib.trimPrefix s [(45:UInt8)]),bH (c::w)),(ak false,ak false),(fZ (((c::w).getD 0 (0:UInt8)).toNat:Int),fZ (c.toNat:Int)),(ak ((c.toNat:Int)==48),ak false),(ak !Go.Lib.trimS (c::w) [(48:UInt8),(49:UInt8),(50:UInt8),(51:UInt8),(52:UInt8),(53:UInt8),(54:UInt8),(55:UInt8),(56:UInt8),(57:UInt8)]==[],ak true)] rfl (by kernel_rfl:aA (bZ NC) true _ 1000 0 _ _ (dY 35 [.d (.str s)] [])=some (RV.bI [aP (0),aP (6)],[],_,_)) (by refine ⟨?_,?_,?_,?_,?_,trivial⟩<;>(first | rfl | exact c0 | exact b2 | exact b3)) (by refine ⟨?_,?_,ah yc,?_,?_,?_,?_,?_,?_,trivial⟩<;>(first | exact ah rfl | exact .of_eq rfl | exact .of_eq (by rw [hv]) | exact .of_eq (by rw [hT]) | exact ah (OW h48) | exact ah ht2 | exact ah (beq_false_of_ne (fun hh=>hno ⟨by simpa using yc,hh⟩)))) ⟨by rw [q1,q2],rfl⟩
        ·skip
         exact WK.fin ok 1000 0 [(10,RV.d (DV.agg [aU k,aI n,DV.str z])),(11,aP e),(18,ak false),(22,bH (c::w)),(24,ak false),(27,fZ (c.toNat:Int)),(28,ak false),(33,ak true),(14,ak false)] [decide (List.length s≤1000000),decide ((0:Int)≤0∧(0:Int) < ((c::w).length:Int)),(c::w).length.ble 1000000000,true,true] [(RV.d (DV.agg [aU (Go.aR.vP (6) (3) s).1,aI (Go.aR.vP (6) (3) s).snd.1,DV.str (Go.aR.vP (6) (3) s).snd.snd.1]),RV.d (DV.agg [aU k,aI n,DV.str z])),(aP (Go.aR.vP (6) (3) s).snd.snd.2,aP e),(ak (e==0),ak false),(ak false,ak false),(bH (Go.Lib.trimPrefix s [(45:UInt8)]),bH (c::w)),(ak false,ak false),(fZ (((c::w).getD 0 (0:UInt8)).toNat:Int),fZ (c.toNat:Int)),(ak ((c.toNat:Int)==48),ak false),(ak !Go.Lib.trimS (c::w) [(48:UInt8),(49:UInt8),(50:UInt8),(51:UInt8),(52:UInt8),(53:UInt8),(54:UInt8),(55:UInt8),(56:UInt8),(57:UInt8)]==[],ak true)] rfl (by kernel_rfl:aA (bZ NC) true _ 1000 0 _ _ (dY 35 [.d (.str s)] [])=some (RV.bI [aP (0),aP (6)],[],_,_)) (by refine ⟨?_,?_,?_,?_,?_,trivial⟩<;>(first | rfl | exact c0 | exact b2 | exact b3)) (by refine ⟨?_,?_,ah yc,?_,?_,?_,?_,?_,?_,trivial⟩<;>(first | exact ah rfl | exact .of_eq rfl | exact .of_eq (by rw [hv]) | exact .of_eq (by rw [hT]) | exact ah (OW h48) | exact ah ht2 | exact ah (beq_false_of_ne (fun hh=>hno ⟨by simpa using yc,hh⟩)))) ⟨by rw [q1,q2],rfl⟩
      | true=>
        obtain ⟨q1,q2⟩:=LD hi (by rw [ht,hd];simp [h48])
        have ht2:(!(Lib.trimS (c::w) ten==[]))=false:=by
         rw [D8.2 hd];rfl
        rcases bo (e==0:Bool) with yc | yc
        ·skip
         exact WK.fin ok 1000 0 [(10,RV.d (DV.agg [aU k,aI n,DV.str z])),(11,aP e),(18,ak false),(22,bH (c::w)),(24,ak false),(27,fZ (c.toNat:Int)),(28,ak false),(33,ak false),(14,ak true)] [decide (List.length s≤1000000),decide ((0:Int)≤0∧(0:Int) < ((c::w).length:Int)),(c::w).length.ble 1000000000,true,true] [(RV.d (DV.agg [aU (Go.aR.vP (6) (3) s).1,aI (Go.aR.vP (6) (3) s).snd.1,DV.str (Go.aR.vP (6) (3) s).snd.snd.1]),RV.d (DV.agg [aU k,aI n,DV.str z])),(aP (Go.aR.vP (6) (3) s).snd.snd.2,aP e),(ak (e==0),ak true),(ak (k==1),ak false),(bH (Go.Lib.trimPrefix s [(45:UInt8)]),bH (c::w)),(ak false,ak false),(fZ (((c::w).getD 0 (0:UInt8)).toNat:Int),fZ (c.toNat:Int)),(ak ((c.toNat:Int)==48),ak false),(ak !Go.Lib.trimS (c::w) [(48:UInt8),(49:UInt8),(50:UInt8),(51:UInt8),(52:UInt8),(53:UInt8),(54:UInt8),(55:UInt8),(56:UInt8),(57:UInt8)]==[],ak false)] rfl (by kernel_rfl:aA (bZ NC) true _ 1000 0 _ _ (dY 35 [.d (.str s)] [])=some (RV.bI [aP (0),aP (5)],[],_,_)) (by refine ⟨?_,?_,?_,?_,?_,trivial⟩<;>(first | rfl | exact c0 | exact b2 | exact b3)) (by refine ⟨?_,?_,ah yc,?_,?_,?_,?_,?_,?_,trivial⟩<;>(first | exact ah rfl | exact .of_eq rfl | exact .of_eq (by rw [hv]) | exact .of_eq (by rw [hT]) | exact ah (OW h48) | exact ah ht2 | exact ah (beq_false_of_ne (fun hh=>hno ⟨by simpa using yc,hh⟩)))) ⟨by rw [q1,q2],rfl⟩
        ·skip
         exact WK.fin ok 1000 0 [(10,RV.d (DV.agg [aU k,aI n,DV.str z])),(11,aP e),(18,ak false),(22,bH (c::w)),(24,ak false),(27,fZ (c.toNat:Int)),(28,ak false),(33,ak false),(14,ak false)] [decide (List.length s≤1000000),decide ((0:Int)≤0∧(0:Int) < ((c::w).length:Int)),(c::w).length.ble 1000000000,true,true] [(RV.d (DV.agg [aU (Go.aR.vP (6) (3) s).1,aI (Go.aR.vP (6) (3) s).snd.1,DV.str (Go.aR.vP (6) (3) s).snd.snd.1]),RV.d (DV.agg [aU k,aI n,DV.str z])),(aP (Go.aR.vP (6) (3) s).snd.snd.2,aP e),(ak (e==0),ak false),(ak false,ak false),(bH (Go.Lib.trimPrefix s [(45:UInt8)]),bH (c::w)),(ak false,ak false),(fZ (((c::w).getD 0 (0:UInt8)).toNat:Int),fZ (c.toNat:Int)),(ak ((c.toNat:Int)==48),ak false),(ak !Go.Lib.trimS (c::w) [(48:UInt8),(49:UInt8),(50:UInt8),(51:UInt8),(52:UInt8),(53:UInt8),(54:UInt8),(55:UInt8),(56:UInt8),(57:UInt8)]==[],ak false)] rfl (by kernel_rfl:aA (bZ NC) true _ 1000 0 _ _ (dY 35 [.d (.str s)] [])=some (RV.bI [aP (0),aP (5)],[],_,_)) (by refine ⟨?_,?_,?_,?_,?_,trivial⟩<;>(first | rfl | exact c0 | exact b2 | exact b3)) (by refine ⟨?_,?_,ah yc,?_,?_,?_,?_,?_,?_,trivial⟩<;>(first | exact ah rfl | exact .of_eq rfl | exact .of_eq (by rw [hv]) | exact .of_eq (by rw [hT]) | exact ah (OW h48) | exact ah ht2 | exact ah (beq_false_of_ne (fun hh=>hno ⟨by simpa using yc,hh⟩)))) ⟨by rw [q1,q2],rfl⟩
def Zf:DV→Option (RV×List Bool)
 | .str s=>some (.bI [.d (.int .i64 (Hw s)),.d (.int .i64 (JI s))],[decide (s.length≤1000000)])
 | _=>none
theorem RX:bU Tryz.prog 20 (Ce Zf):=by
 refine oI fun x y c hg hc=>?_;unfold Zf at hg;split at hg
 ·rename_i s;simp only [Option.some.injEq,Prod.mk.injEq] at hg;obtain ⟨rfl,rfl⟩:=hg;exact Ze s (of_decide_eq_true (hc _ (by simp:decide (s.length≤1000000)∈[decide (s.length≤1000000)])))
 ·cases hg
abbrev eT:Nat:=26
def LG:kg:=fun a o=>match a,o with
 | [.d (.int .i64 w),.ptr 0 0],[.box E [.d (.int .i64 e)]]=>some (.bI [],[.box E [.d (.int .i64 (jX e w))]],[Nat.beq E eT])
 | _,_=>none
theorem LH:bU Tryz.prog 17 LG:=by
 intro a o r o' c hg hc;unfold LG at hg;split at hg
 ·rename_i k E e;simp only [Option.some.injEq,Prod.mk.injEq] at hg;obtain ⟨rfl,rfl,rfl⟩:=hg;have hE:=bQ (hc (Nat.beq E eT) (by simp));subst hE;have ok:=aS (l:=[]) .nil;refine aY (fn:=Tryz.f17) (body:=flC) true (by kernel_rfl) (by kernel_rfl) (by kernel_rfl) ?_;by_cases h6:e=6
  ·have hq:jX e k=e:=if_pos h6;have e6:(e != 6)=false:=by rw [h6];rfl
   exact WK.fin ok 1000 0 [(4,ak false)] [] [(ak (e != 6),ak false)] rfl (by kernel_rfl:aA (bZ []) true _ 1000 0 _ _ (dY 10 [.d (.int .i64 k),.ptr 0 0] [.box eT [.d (.int .i64 e)]])=some (RV.bI [],[au.box 26 [aP e]],_,_)) trivial ⟨(by exact ah e6),trivial⟩ ⟨rfl,by rw [hq]⟩
  ·have e6:(e != 6)=true:=bne_iff_ne.2 h6;by_cases h0:k=0
   ·have hq:jX e k=e:=by unfold jX;rw [if_neg h6,if_pos h0]
    have e0:(k != 0)=false:=by rw [h0];rfl
    exact WK.fin ok 1000 0 [(4,ak true),(7,ak false)] [] [(ak (e != 6),ak true),(ak (k != 0),ak false)] rfl (by kernel_rfl:aA (bZ []) true _ 1000 0 _ _ (dY 10 [.d (.int .i64 k),.ptr 0 0] [.box eT [.d (.int .i64 e)]])=some (RV.bI [],[au.box 26 [aP e]],_,_)) trivial (by refine ⟨?_,?_,trivial⟩<;>(first | exact ah e6 | exact ah e0)) ⟨rfl,by rw [hq]⟩
   ·have hq:jX e k=k:=by unfold jX;rw [if_neg h6,if_neg h0]
    have e0:(k != 0)=true:=bne_iff_ne.2 h0;exact WK.fin ok 1000 0 [(4,ak true),(7,ak true)] [] [(ak (e != 6),ak true),(ak (k != 0),ak true)] rfl (by kernel_rfl:aA (bZ []) true _ 1000 0 _ _ (dY 10 [.d (.int .i64 k),.ptr 0 0] [.box eT [.d (.int .i64 e)]])=some (RV.bI [],[au.box 26 [aP k]],_,_)) trivial (by refine ⟨?_,?_,trivial⟩<;>(first | exact ah e6 | exact ah e0)) ⟨rfl,by rw [hq]⟩
 ·cases hg
abbrev tT:Nat:=4
abbrev LJ:Nat:=43
abbrev Qy:Nat:=44
abbrev aT:Nat:=25
def Jc:DV→DV→Option (RV×List Bool)
 | .str s,.str [32]=>some (.bI [.d (.str (aR.cut s).1),.d (.str (aR.cut s).2.1),.d (.bool (aR.cut s).2.2)],[decide (s.length≤1000000)])
 | _,_=>none
def LK:kg:=fun a o=>match a,o with
 | [.ptr 0 0,.ptr 1 0,.ptr 2 0],[.box A [.d (.bool m)],.box F [.fM (.func f) [] [.ptr 3 0]],.box B [.d (.str r)],.box E [.d (.int .i64 e)]]=>
   some (.d (.str (nR m r)),[.box A [.d (.bool (eu m r))],.box F [.fM (.func f) [] [.ptr 3 0]],.box B [.d (.str (dM m r))],.box E [.d (.int .i64 (wh m e))]],
    [Nat.beq A tT,Nat.beq F LJ,Nat.beq f 17,Nat.beq B sT,Nat.beq E eT,decide (r.length≤1000000)])
 | _,_=>none
def FR:kg:=fun a o=>match a,o with
 | [.ptr 0 0,.ptr 1 0],[.box S [.fM (.func g) [] [.ptr 2 0,.ptr 1 0,.ptr 3 0]],.box F [.fM (.func f) [] [.ptr 4 0]],.box A [.d (.bool m)],.box B [.d (.str r)],.box E [.d (.int .i64 e)]]=>
   some (.d (.int .i64 (iG m r)),[.box S [.fM (.func g) [] [.ptr 2 0,.ptr 1 0,.ptr 3 0]],.box F [.fM (.func f) [] [.ptr 4 0]],.box A [.d (.bool (eu m r))],.box B [.d (.str (dM m r))],.box E [.d (.int .i64 (nS m r e))]],
    [Nat.beq A tT,Nat.beq F LJ,Nat.beq f 17,Nat.beq g 18,Nat.beq S Qy,Nat.beq B sT,Nat.beq E eT,decide (r.length≤999999)])
 | _,_=>none
def Zg:Nat→List Int
 | 1=>[6]
 | 2=>[0]
 | 3=>[1]
 | 4=>[1]
 | 5=>[1]
 | 6=>[1,2,3]
 | 7=>[0,1,4]
 | 8=>[0,1]
 | 9=>[0,5]
 | 10=>[0]
 | 12=>[1]
 | 14=>[1]
 | _=>[]
def CG (k:Nat):DV:=if Zg k=[] then .aL 0 [] true else .aL 1 ((Zg k).map fun f=>.int .i64 f) false
def Jd (k:Int):W:=kw k.toNat
def LM:DV→Option (RV×List Bool)
 | .int .i64 k=>some (.bI [.d (.str (Jd k)),.d (CG k.toNat)],[decide (1≤k∧k≤14)])
 | _=>none
noncomputable abbrev ixC:Code:=dS Tryz.f73
noncomputable abbrev scC:Code:=dS Tryz.f36
noncomputable abbrev cuC:Code:=dS Tryz.f15
noncomputable abbrev FT:Code:=dS Tryz.f16
noncomputable abbrev tkC:Code:=dS Tryz.f18
noncomputable abbrev cnC:Code:=dS Tryz.f19
noncomputable def Zh:List (Nat×kg):=[(130,e2 Oz)]
theorem RY:dQ Tryz.prog Zh:=.cons Hl .nil
def Zi:DV→DV→Option (DV×List Bool)
 | .str s,.str [32]=>some (.int .i64 (Lib.indexByte s 32),[])
 | _,_=>none
theorem Zj (s:W):Go.Am.C Tryz.prog 73 [.d (.str s),.d (.str [32])] [] (fun r o=>r = .d (.int .i64 (Lib.indexByte s 32))∧o=[]):=by
 have ok:=aS RY;refine aY (fn:=Tryz.f73) (body:=ixC) true (by kernel_rfl) (by kernel_rfl) (by kernel_rfl) ?_;by_cases h:s=[32]
 ·have e0:(([(32:UInt8)]:List UInt8)==s)=true:=by rw [h];rfl
  have hq:Lib.indexByte s 32=0:=by rw [h];rfl
  exact WK.fin ok 1000 0 [(18,ak false),(22,ak true)] [] [(ak false,ak false),(ak ([(32:UInt8)]==s),ak true)] rfl (by kernel_rfl:aA (bZ Zh) true _ 1000 0 _ _ (dY 143 [.d (.str s),.d (.str [32])] [])=some (aP (0),[],_,_)) trivial (by refine ⟨?_,?_,trivial⟩<;>(first | exact ah rfl | exact ah e0)) ⟨by rw [hq],rfl⟩
 ·have e0:(([(32:UInt8)]:List UInt8)==s)=false:=beq_false_of_ne (Ne.symm h);obtain ⟨k,hk⟩:∃k,Lib.indexByte s 32=k:=⟨_,rfl⟩;exact WK.fin ok 1000 0 [(18,ak false),(22,ak false),(26,ak true),(30,aP k)] [true] [(ak false,ak false),(ak ([(32:UInt8)]==s),ak false),(ak true,ak true),(aP (Go.Lib.indexByte s (32:UInt8)),aP k)] rfl (by kernel_rfl:aA (bZ Zh) true _ 1000 0 _ _ (dY 143 [.d (.str s),.d (.str [32])] [])=some (aP k,[],_,_)) ⟨(by rfl),trivial⟩ (by refine ⟨?_,?_,?_,?_,trivial⟩<;>(first | exact ah rfl | exact ah e0 | exact .of_eq (by rw [hk]))) ⟨by rw [hk],rfl⟩
theorem RZ:bU Tryz.prog 73 (e2 Zi):=by
 refine lH fun x x2 y c hg hc=>?_;unfold Zi at hg;split at hg
 ·simp only [Option.some.injEq,Prod.mk.injEq] at hg;obtain ⟨rfl,rfl⟩:=hg;exact Zj _
 ·cases hg
noncomputable def R3:List (Nat×kg):=[(73,e2 Zi)]
theorem OX:dQ Tryz.prog R3:=.cons RZ .nil
def OY (s:W):RV:=.bI [.d (.str (aR.cut s).1),.d (.str (aR.cut s).2.1),.d (.bool (aR.cut s).2.2)]
theorem Wq (s:W) (hs:s.length≤1000000):Go.Am.C Tryz.prog 36 [.d (.str s),.d (.str [32])] [] (fun r o=>r=OY s∧o=[]):=by
 have ok:=aS OX;refine aY (fn:=Tryz.f36) (body:=scC) true (by kernel_rfl) (by kernel_rfl) (by kernel_rfl) ?_;rcases Ci s with ⟨e1,e2⟩ | ⟨i,hi,e1,e2⟩
 ·obtain ⟨k,hk⟩:∃k:Int,k = -1:=⟨_,rfl⟩;exact WK.fin ok 1000 0 [(10,aP k),(12,ak false)] [] [(aP (Go.Lib.indexByte s (32:UInt8)),aP k),(ak (decide ((0:Int)≤k)),ak false)] rfl (by kernel_rfl:aA (bZ R3) true _ 1000 0 _ _ (dY 23 [.d (.str s),.d (.str [32])] [])=some (RV.bI [bH s,bH [],ak false],[],_,_)) trivial (by refine ⟨?_,?_,trivial⟩<;>(first | exact ah (decide_eq_false (by omega)) | exact .of_eq (by rw [e1,hk]))) ⟨by unfold OY;rw [e2],rfl⟩
 ·obtain ⟨t1,h1⟩:∃t1,s.take i=t1:=⟨_,rfl⟩;obtain ⟨t2,h2⟩:∃t2,s.drop (i+1)=t2:=⟨_,rfl⟩;have e3:rR s none (some (Nat.cast (R:=Int) i))=t1:=by rw [←h1];rfl
  have e4:rR s (some (Nat.cast (R:=Int) (i+1))) none=t2:=by rw [←h2];rfl
  have c1:decide ((0:Int)≤(Nat.cast (R:=Int) i)∧(Nat.cast (R:=Int) i)≤(Nat.cast (R:=Int) s.length))=true:=decide_eq_true (by omega);have c2:decide ((0:Int)≤(Nat.cast (R:=Int) (i+1))∧(Nat.cast (R:=Int) (i+1))≤(Nat.cast (R:=Int) s.length))=true:=decide_eq_true (by omega);have v1:=bY (i:=i) (by omega);exact WK.fin ok 1000 0 [(10,aP (i:Int)),(12,ak true),(15,bH t1),(20,aP ((i+1:Nat):Int)),(21,bH t2)] [decide (0≤(i:Int)∧(i:Int)≤((List.length s:Nat):Int)),decide (0≤((i+1:Nat):Int)∧((i+1:Nat):Int)≤((List.length s:Nat):Int))] [(aP (Go.Lib.indexByte s (32:UInt8)),aP (i:Int)),(ak true,ak true),(bH (rR s Option.none (Option.some (i:Int))),bH t1),(aP (IntKind.i64.wrap ((i:Int)+1)),aP ((i+1:Nat):Int)),(bH (rR s (Option.some ((i+1:Nat):Int)) Option.none),bH t2)] rfl (by kernel_rfl:aA (bZ R3) true _ 1000 0 _ _ (dY 23 [.d (.str s),.d (.str [32])] [])=some (RV.bI [bH t1,bH t2,ak true],[],_,_)) (by refine ⟨?_,?_,trivial⟩<;>(first | rfl | exact c1 | exact c2)) (by refine ⟨?_,?_,?_,?_,?_,trivial⟩<;>(first | exact ah rfl | exact .of_eq (by rw [e1]) | exact .of_eq (by rw [e3]) | exact .of_eq (by rw [e4]) | exact v1)) ⟨by unfold OY;rw [e2,h1,h2],rfl⟩
theorem OZ:bU Tryz.prog 36 (Vs Jc):=by
 refine Lg fun x x2 y c hg hc=>?_;unfold Jc at hg;split at hg
 ·rename_i s;simp only [Option.some.injEq,Prod.mk.injEq] at hg;obtain ⟨rfl,rfl⟩:=hg;exact Wq s (of_decide_eq_true (hc _ (by simp:decide (s.length≤1000000)∈[decide (s.length≤1000000)])))
 ·cases hg
noncomputable def tc2:List (Nat×kg):=[(36,Vs Jc)]
theorem R4:dQ Tryz.prog tc2:=.cons OZ .nil
theorem Ws (s:W) (hs:s.length≤1000000):Go.Am.C Tryz.prog 15 [.d (.str s),.d (.str [32])] [] (fun r o=>r=OY s∧o=[]):=by
 have ok:=aS R4;refine aY (fn:=Tryz.f15) (body:=cuC) true (by kernel_rfl) (by kernel_rfl) (by kernel_rfl) ?_;have b1:decide (s.length≤1000000)=true:=decide_eq_true hs;exact WK.fin ok 1000 0 [] [decide (List.length s≤1000000)] [] rfl (by kernel_rfl:aA (bZ tc2) true _ 1000 0 _ _ (dY 13 [.d (.str s),.d (.str [32])] [])=some (RV.bI [bH (Go.aR.cut s).1,bH (Go.aR.cut s).snd.1,ak (Go.aR.cut s).snd.2],[],_,_)) ⟨(by first | rfl | exact b1),trivial⟩ trivial ⟨rfl,rfl⟩
theorem O4:bU Tryz.prog 15 (Vs Jc):=by
 refine Lg fun x x2 y c hg hc=>?_;unfold Jc at hg;split at hg
 ·rename_i s;simp only [Option.some.injEq,Prod.mk.injEq] at hg;obtain ⟨rfl,rfl⟩:=hg;exact Ws s (of_decide_eq_true (hc _ (by simp:decide (s.length≤1000000)∈[decide (s.length≤1000000)])))
 ·cases hg
def fG (k:Nat):RV:=.bI [.d (.str (kw k)),.d (CG k)]
theorem Wt:Go.Am.C Tryz.prog 16 [.d (.int .i64 (1:Nat))] [] (fun r o=>r=fG 1∧o=[]):=by
 have ok:=aS (l:=[]) .nil;refine aY (fn:=Tryz.f16) (body:=FT) true (by kernel_rfl) (by kernel_rfl) (by kernel_rfl) ?_;exact WK.fin ok 1000 0 [] [] [] rfl (by kernel_rfl:aA (bZ []) true _ 1000 0 _ _ (dY 45 [.d (.int .i64 (1:Nat))] [])=some (fG 1,[],_,_)) trivial trivial ⟨rfl,rfl⟩
theorem word2:Go.Am.C Tryz.prog 16 [.d (.int .i64 (2:Nat))] [] (fun r o=>r=fG 2∧o=[]):=by
 have ok:=aS (l:=[]) .nil;refine aY (fn:=Tryz.f16) (body:=FT) true (by kernel_rfl) (by kernel_rfl) (by kernel_rfl) ?_;exact WK.fin ok 1000 0 [] [] [] rfl (by kernel_rfl:aA (bZ []) true _ 1000 0 _ _ (dY 45 [.d (.int .i64 (2:Nat))] [])=some (fG 2,[],_,_)) trivial trivial ⟨rfl,rfl⟩
theorem Wu:Go.Am.C Tryz.prog 16 [.d (.int .i64 (3:Nat))] [] (fun r o=>r=fG 3∧o=[]):=by
 have ok:=aS (l:=[]) .nil;refine aY (fn:=Tryz.f16) (body:=FT) true (by kernel_rfl) (by kernel_rfl) (by kernel_rfl) ?_;exact WK.fin ok 1000 0 [] [] [] rfl (by kernel_rfl:aA (bZ []) true _ 1000 0 _ _ (dY 45 [.d (.int .i64 (3:Nat))] [])=some (fG 3,[],_,_)) trivial trivial ⟨rfl,rfl⟩
theorem Wv:Go.Am.C Tryz.prog 16 [.d (.int .i64 (4:Nat))] [] (fun r o=>r=fG 4∧o=[]):=by
 have ok:=aS (l:=[]) .nil;refine aY (fn:=Tryz.f16) (body:=FT) true (by kernel_rfl) (by kernel_rfl) (by kernel_rfl) ?_;exact WK.fin ok 1000 0 [] [] [] rfl (by kernel_rfl:aA (bZ []) true _ 1000 0 _ _ (dY 45 [.d (.int .i64 (4:Nat))] [])=some (fG 4,[],_,_)) trivial trivial ⟨rfl,rfl⟩
theorem Ww:Go.Am.C Tryz.prog 16 [.d (.int .i64 (5:Nat))] [] (fun r o=>r=fG 5∧o=[]):=by
 have ok:=aS (l:=[]) .nil;refine aY (fn:=Tryz.f16) (body:=FT) true (by kernel_rfl) (by kernel_rfl) (by kernel_rfl) ?_;exact WK.fin ok 1000 0 [] [] [] rfl (by kernel_rfl:aA (bZ []) true _ 1000 0 _ _ (dY 45 [.d (.int .i64 (5:Nat))] [])=some (fG 5,[],_,_)) trivial trivial ⟨rfl,rfl⟩
theorem Wx:Go.Am.C Tryz.prog 16 [.d (.int .i64 (6:Nat))] [] (fun r o=>r=fG 6∧o=[]):=by
 have ok:=aS (l:=[]) .nil;refine aY (fn:=Tryz.f16) (body:=FT) true (by kernel_rfl) (by kernel_rfl) (by kernel_rfl) ?_;exact WK.fin ok 1000 0 [] [] [] rfl (by kernel_rfl:aA (bZ []) true _ 1000 0 _ _ (dY 45 [.d (.int .i64 (6:Nat))] [])=some (fG 6,[],_,_)) trivial trivial ⟨rfl,rfl⟩
theorem Wy:Go.Am.C Tryz.prog 16 [.d (.int .i64 (7:Nat))] [] (fun r o=>r=fG 7∧o=[]):=by
 have ok:=aS (l:=[]) .nil;refine aY (fn:=Tryz.f16) (body:=FT) true (by kernel_rfl) (by kernel_rfl) (by kernel_rfl) ?_;exact WK.fin ok 1000 0 [] [] [] rfl (by kernel_rfl:aA (bZ []) true _ 1000 0 _ _ (dY 45 [.d (.int .i64 (7:Nat))] [])=some (fG 7,[],_,_)) trivial trivial ⟨rfl,rfl⟩
theorem Wz:Go.Am.C Tryz.prog 16 [.d (.int .i64 (8:Nat))] [] (fun r o=>r=fG 8∧o=[]):=by
 have ok:=aS (l:=[]) .nil;refine aY (fn:=Tryz.f16) (body:=FT) true (by kernel_rfl) (by kernel_rfl) (by kernel_rfl) ?_;exact WK.fin ok 1000 0 [] [] [] rfl (by kernel_rfl:aA (bZ []) true _ 1000 0 _ _ (dY 45 [.d (.int .i64 (8:Nat))] [])=some (fG 8,[],_,_)) trivial trivial ⟨rfl,rfl⟩
theorem WA:Go.Am.C Tryz.prog 16 [.d (.int .i64 (9:Nat))] [] (fun r o=>r=fG 9∧o=[]):=by
 have ok:=aS (l:=[]) .nil;refine aY (fn:=Tryz.f16) (body:=FT) true (by kernel_rfl) (by kernel_rfl) (by kernel_rfl) ?_;exact WK.fin ok 1000 0 [] [] [] rfl (by kernel_rfl:aA (bZ []) true _ 1000 0 _ _ (dY 45 [.d (.int .i64 (9:Nat))] [])=some (fG 9,[],_,_)) trivial trivial ⟨rfl,rfl⟩
theorem R5:Go.Am.C Tryz.prog 16 [.d (.int .i64 (10:Nat))] [] (fun r o=>r=fG 10∧o=[]):=by
 have ok:=aS (l:=[]) .nil;refine aY (fn:=Tryz.f16) (body:=FT) true (by kernel_rfl) (by kernel_rfl) (by kernel_rfl) ?_;exact WK.fin ok 1000 0 [] [] [] rfl (by kernel_rfl:aA (bZ []) true _ 1000 0 _ _ (dY 45 [.d (.int .i64 (10:Nat))] [])=some (fG 10,[],_,_)) trivial trivial ⟨rfl,rfl⟩
theorem R6:Go.Am.C Tryz.prog 16 [.d (.int .i64 (11:Nat))] [] (fun r o=>r=fG 11∧o=[]):=by
 have ok:=aS (l:=[]) .nil;refine aY (fn:=Tryz.f16) (body:=FT) true (by kernel_rfl) (by kernel_rfl) (by kernel_rfl) ?_;exact WK.fin ok 1000 0 [] [] [] rfl (by kernel_rfl:aA (bZ []) true _ 1000 0 _ _ (dY 45 [.d (.int .i64 (11:Nat))] [])=some (fG 11,[],_,_)) trivial trivial ⟨rfl,rfl⟩
theorem R7:Go.Am.C Tryz.prog 16 [.d (.int .i64 (12:Nat))] [] (fun r o=>r=fG 12∧o=[]):=by
 have ok:=aS (l:=[]) .nil;refine aY (fn:=Tryz.f16) (body:=FT) true (by kernel_rfl) (by kernel_rfl) (by kernel_rfl) ?_;exact WK.fin ok 1000 0 [] [] [] rfl (by kernel_rfl:aA (bZ []) true _ 1000 0 _ _ (dY 45 [.d (.int .i64 (12:Nat))] [])=some (fG 12,[],_,_)) trivial trivial ⟨rfl,rfl⟩
theorem R8:Go.Am.C Tryz.prog 16 [.d (.int .i64 (13:Nat))] [] (fun r o=>r=fG 13∧o=[]):=by
 have ok:=aS (l:=[]) .nil;refine aY (fn:=Tryz.f16) (body:=FT) true (by kernel_rfl) (by kernel_rfl) (by kernel_rfl) ?_;exact WK.fin ok 1000 0 [] [] [] rfl (by kernel_rfl:aA (bZ []) true _ 1000 0 _ _ (dY 45 [.d (.int .i64 (13:Nat))] [])=some (fG 13,[],_,_)) trivial trivial ⟨rfl,rfl⟩
theorem R9:Go.Am.C Tryz.prog 16 [.d (.int .i64 (14:Nat))] [] (fun r o=>r=fG 14∧o=[]):=by
 have ok:=aS (l:=[]) .nil;refine aY (fn:=Tryz.f16) (body:=FT) true (by kernel_rfl) (by kernel_rfl) (by kernel_rfl) ?_;exact WK.fin ok 1000 0 [] [] [] rfl (by kernel_rfl:aA (bZ []) true _ 1000 0 _ _ (dY 45 [.d (.int .i64 (14:Nat))] [])=some (fG 14,[],_,_)) trivial trivial ⟨rfl,rfl⟩
theorem LP (k:Nat) (h:1≤k∧k≤14):Go.Am.C Tryz.prog 16 [.d (.int .i64 (k:Int))] [] (fun r o=>r=fG k∧o=[]):=by
 match k,h with
 | 1,_=>exact Wt
 | 2,_=>exact word2
 | 3,_=>exact Wu
 | 4,_=>exact Wv
 | 5,_=>exact Ww
 | 6,_=>exact Wx
 | 7,_=>exact Wy
 | 8,_=>exact Wz
 | 9,_=>exact WA
 | 10,_=>exact R5
 | 11,_=>exact R6
 | 12,_=>exact R7
 | 13,_=>exact R8
 | 14,_=>exact R9
 | 0,h=>omega
 | k+15,h=>omega
theorem LQ:bU Tryz.prog 16 (Ce LM):=by
 refine oI fun x y c hg hc=>?_;unfold LM at hg;split at hg
 ·rename_i k;simp only [Option.some.injEq,Prod.mk.injEq] at hg;obtain ⟨rfl,rfl⟩:=hg;have h:=of_decide_eq_true (hc _ (by simp:decide (1≤k∧k≤14)∈[decide (1≤k∧k≤14)]));obtain ⟨n,rfl⟩:=Int.eq_ofNat_of_zero_le (show 0≤k by omega);exact LP n (by omega)
 ·cases hg
noncomputable def tr1:List (Nat×kg):=[(15,Vs Jc),(20,Ce Zf),(17,LG)]
theorem LU:dQ Tryz.prog tr1:=.cons O4 (.cons RX (.cons LH .nil))
noncomputable def tr2:List (Nat×kg):=(18,LK)::tr1
def Yn (m:Bool) (r:W) (e:Int):List au:=[.box tT [.d (.bool m)],.box LJ [.fM (.func 17) [] [.ptr 3 0]],.box sT [.d (.str r)],.box eT [.d (.int .i64 e)]]
theorem Sb (m:Bool) (r:W) (e:Int) (hr:r.length≤1000000):Go.Am.C Tryz.prog 18 [.ptr 0 0,.ptr 1 0,.ptr 2 0] (Yn m r e) (fun q o=>q = .d (.str (nR m r))∧o=Yn (eu m r) (dM m r) (wh m e)):=by
 have ok:=aS LU;refine aY (fn:=Tryz.f18) (body:=tkC) true (by kernel_rfl) (by kernel_rfl) (by kernel_rfl) ?_;have b1:decide (r.length≤1000000)=true:=decide_eq_true hr;cases m with
 | true=>
   exact WK.fin ok 1000 0 [] [decide (List.length r≤1000000)] [] rfl (by kernel_rfl:aA (bZ tr1) true _ 1000 0 _ _ (dY 17 [.ptr 0 0,.ptr 1 0,.ptr 2 0] (Yn true r e))=some (bH (Go.aR.cut r).1,[au.box 4 [ak (Go.aR.cut r).snd.2],au.box 43 [RV.fM (Go.Fn.func 17) [] [RV.ptr 3 0]],au.box 9 [bH (Go.aR.cut r).snd.1],au.box 26 [aP e]],_,_)) ⟨(by first | rfl | exact b1),trivial⟩ trivial ⟨rfl,rfl⟩
 | false=>
   exact WK.fin ok 1000 0 [] [true] [] rfl (by kernel_rfl:aA (bZ tr1) true _ 1000 0 _ _ (dY 17 [.ptr 0 0,.ptr 1 0,.ptr 2 0] (Yn false r e))=some (bH [(48:UInt8)],[au.box 4 [ak false],au.box 43 [RV.fM (Go.Fn.func 17) [] [RV.ptr 3 0]],au.box 9 [bH r],au.box 26 [aP (Go.aR.jX e (6))]],_,_)) ⟨(by first | rfl | exact b1),trivial⟩ trivial ⟨rfl,rfl⟩
theorem LV:bU Tryz.prog 18 LK:=by
 intro a o r o' c hg hc;unfold LK at hg;split at hg
 ·rename_i A m F f B r E e;simp only [Option.some.injEq,Prod.mk.injEq] at hg;obtain ⟨rfl,rfl,rfl⟩:=hg;have h1:=bQ (hc (Nat.beq A tT) (by simp));have h2:=bQ (hc (Nat.beq F LJ) (by simp));have h3:=bQ (hc (Nat.beq f 17) (by simp));have h4:=bQ (hc (Nat.beq B sT) (by simp));have h5:=bQ (hc (Nat.beq E eT) (by simp));have h6:=of_decide_eq_true (hc (decide (r.length≤1000000)) (by simp));subst h1;subst h2;subst h3;subst h4;subst h5;exact Sb m r e h6
 ·cases hg
theorem LW:dQ Tryz.prog tr2:=.cons LV LU
def Zk (m:Bool) (r:W) (e:Int):List au:=[.box Qy [.fM (.func 18) [] [.ptr 2 0,.ptr 1 0,.ptr 3 0]],.box LJ [.fM (.func 17) [] [.ptr 4 0]],.box tT [.d (.bool m)],.box sT [.d (.str r)],.box eT [.d (.int .i64 e)]]
theorem O5 (m:Bool) (r:W) (e:Int) (hr:r.length≤1000000-1):Go.Am.C Tryz.prog 19 [.ptr 0 0,.ptr 1 0] (Zk m r e) (fun q o=>q = .d (.int .i64 (iG m r))∧o=Zk (eu m r) (dM m r) (nS m r e)):=by
 have ok:=aS LW;refine aY (fn:=Tryz.f19) (body:=cnC) true (by kernel_rfl) (by kernel_rfl) (by kernel_rfl) ?_;have b1:decide (r.length≤1000000)=true:=decide_eq_true (by omega);have b2:decide ((nR m r).length≤1000000)=true:=decide_eq_true (by have:=wJ m r;omega);exact WK.fin ok 1000 0 [] [true,true,true,true,true,decide (List.length r≤1000000),decide (List.length (Go.aR.nR m r)≤1000000),true] [] rfl (by kernel_rfl:aA (bZ tr2) true _ 1000 0 _ _ (dY 15 [.ptr 0 0,.ptr 1 0] (Zk m r e))=some (aP (Go.aR.Hw (Go.aR.nR m r)),[au.box 44 [RV.fM (Go.Fn.func 18) [] [RV.ptr 2 0,RV.ptr 1 0,RV.ptr 3 0]],au.box 43 [RV.fM (Go.Fn.func 17) [] [RV.ptr 4 0]],au.box 4 [ak (Go.aR.eu m r)],au.box 9 [bH (Go.aR.dM m r)],au.box 26 [aP (Go.aR.jX (Go.aR.wh m e) (Go.aR.JI (Go.aR.nR m r)))]],_,_)) (by refine ⟨?_,?_,?_,?_,?_,?_,?_,?_,trivial⟩<;>(first | rfl | exact b1 | exact b2)) trivial ⟨rfl,rfl⟩
theorem Je:bU Tryz.prog 19 FR:=by
 intro a o r o' c hg hc;unfold FR at hg;split at hg
 ·rename_i S g F f A m B r E e;simp only [Option.some.injEq,Prod.mk.injEq] at hg;obtain ⟨rfl,rfl,rfl⟩:=hg;have h1:=bQ (hc (Nat.beq A tT) (by simp));have h2:=bQ (hc (Nat.beq F LJ) (by simp));have h3:=bQ (hc (Nat.beq f 17) (by simp));have h7:=bQ (hc (Nat.beq g 18) (by simp));have h8:=bQ (hc (Nat.beq S Qy) (by simp));have h4:=bQ (hc (Nat.beq B sT) (by simp));have h5:=bQ (hc (Nat.beq E eT) (by simp));have h6:=of_decide_eq_true (hc (decide (r.length≤999999)) (by simp));subst h1;subst h2;subst h3;subst h4;subst h5;subst h7;subst h8;exact O5 m r e (by omega)
 ·cases hg
end Go.Proofs.YtjoefbioobdinaaGreatDoor
namespace Go.Am
open Go.RowKit
variable [Gl]
theorem av.Ck {κ:bn} {φ:bG} {w:World} {s:bP} {a:Act} (F:av κ φ w s a) {i j sl T ty sz sz' : Nat} {cs:List RV} (hO:s.O i=some (.box T cs)) (hj:cs[j]? = some (.d (.aL sz' [] true))) (hs:s.O sl=none) :
 av κ (gU φ sl .nil) w { s with O:=bq (bq s.O sl (some (.arr ty sz []))) i (some (.box T (cs.set j (.own sl sz)))) } a∧Kp φ s.O (gU φ sl .nil) (bq (bq s.O sl (some (.arr ty sz []))) i (some (.box T (cs.set j (.own sl sz))))):=by
 have hne:i≠sl:=fun e=>by subst e;rw [hO] at hs;cases hs
 have hun:φ sl = .un:=by have:=F.objs sl;rw [hs] at this;exact this
 obtain ⟨q1,q2,_⟩:=F.vU (i:=sl) (p:=.arr ty sz []) (κ':=κ) (φ':=gU φ sl .nil) (w':=w) (Nat.le_refl _) (fun _ h=>h) (fun _ _ _ _ h=>h) (fun _ _ h=>h) (fun _ _ _ _=>rfl)
  (fun j hj=>lq _ _ hj) (fun h=>absurd hun h) (fun _ c _ fz hc=>⟨c,fz,hc,rfl⟩) (fun h=>absurd hun h) F.bnd.lt (fun M=>.inl ⟨aM _ _ _,rfl⟩)
 have Qc:(bq s.O sl (some (.arr ty sz []))) i=some (.box T cs):=by rw [dD _ _ hne];exact hO
 have hM:dG κ (gU φ sl .nil) (bq s.O sl (some (.arr ty sz []))) w.heap κ (gU φ sl .nil) (bq (bq s.O sl (some (.arr ty sz []))) i (some (.box T (cs.set j (.own sl sz))))) w.heap:=
  ⟨fun _ hb=>⟨hb,rfl⟩,fun _ c _ fz hc=>⟨c,fz,hc,rfl⟩,fun _ _=>rfl,fun k n _ hn=>by
    by_cases e:k=i
    ·subst e;rw [bE] at hn;simp [au.cB] at hn
    ·rw [dD _ _ e] at hn;exact hn⟩
 refine ⟨⟨fun x=>(q1.regs x).mono hM,fun k=>?_,q1.bnd,q1.n,q1.df.mono hM⟩,q2.kp.trans hM.kp⟩;dsimp only;by_cases e:k=i
 ·subst e;rw [bE];have ho:=q1.objs k;simp only at ho;rw [Qc] at ho;obtain ⟨b,c,h1,h2,h3,h4,h5,h6⟩:=ho;refine ⟨b,c,h1,h2,h3,by simpa using h4,h5,fun n x v hx hv=>?_⟩;rw [List.getElem?_set] at hx;by_cases e:j=n
  ·subst e;have hr:=h6 j _ v hj hv
   have hx' : x = .own sl sz:=by
    split at hx
    ·split at hx
     ·simpa using hx.symm
     ·simp at hx
    ·exact absurd rfl (by assumption)
   subst hx';cases hr with
   | d hr=>
     cases hr with
     | iD hf=>have:=(hf rfl).1;subst this;exact .fP (aM _ _ _)
     | aL _ _ hf hc _ _ _=>have:=(hf rfl).1;simp only [List.length_nil] at this;subst this;exact .fP (aM _ _ _)
  ·rw [if_neg e] at hx;exact (h6 n x v hx hv).mono hM
 ·rw [dD _ _ e];exact (q1.objs k).mono hM (fun b hb=>⟨hb,rfl⟩) rfl
theorem WK.Ck {P:Program} {m:Nat} {k:List It} {s s' : bP} {Q:bP→Prop} {i j sl T ty sz sz' : Nat} {cs:List RV} (hO:s.O i=some (.box T cs)) (hj:cs[j]? = some (.d (.aL sz' [] true))) (hs:s.O sl=none)
 (he:s' = { s with O:=bq (bq s.O sl (some (.arr ty sz []))) i (some (.box T (cs.set j (.own sl sz)))) }) (hk:WK P m k s' Q):WK P m k s Q:=by
 subst he;intro κ φ w a F b fs;obtain ⟨F',K⟩:=F.Ck (ty:=ty) (sz:=sz) hO hj hs;obtain ⟨e,a',w',κ',φ',s',h1,h2,h3,h4,h5,h6⟩:=hk κ _ w a F' b fs;exact ⟨e,a',w',κ',φ',s',h1,h2,h3,h4,(K.m m).trans h5,h6⟩
end Go.Am
