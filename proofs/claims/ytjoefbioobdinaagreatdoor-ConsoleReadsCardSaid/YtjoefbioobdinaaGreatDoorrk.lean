/-
  Texts that the claim leans on: KA, Bd, KB.
-/
import Derived.Test.YtjoefbioobdinaaGreatDoorProg
import Derived.Test.YtjoefbioobdinaaGreatDoorrh
import Derived.Test.YtjoefbioobdinaaGreatDoorrj
import Derived.Lib.Builder
import Derived.Lib.UnsafeStr
import Derived.Lib.Hide
import Derived.RegionTactic
import Derived.WalkKit
import Derived.Laws.Externs
namespace Go.Proofs.YtjoefbioobdinaaGreatDoor
open Go.RowKit Am
open Go.aQ hiding cut intOf take split
set_option maxRecDepth 100000
set_option linter.unusedVariables false
set_option linter.unusedSimpArgs false
theorem jM:eZ Tryz.prog sQ:=.cons TG (.cons TH (.cons TK .nil))
theorem zh {s:W} {i:Nat} {k:UInt8} (h:i < s.length):s[i]? = some k↔s.getD i 0=k:=by
 rw [List.getD,List.getElem?_eq_getElem h];simp
theorem jE (s:W):vR s=if s=uJ then (0,0,[],0)
 else if 3≤s.length∧s.getD 0 0=120∧s.getD 1 0=39∧s.getD (s.length-1) 0=39∧s.length % 2=1 then Bc 3 6 3 (eH (inner s 2))
 else if 2≤s.length∧s.getD 0 0=39∧s.getD (s.length-1) 0=39 then Bc 2 6 3 (iK (inner s 1))
 else if yY s=true then (1,J4 s,[],0) else (0,0,[],6):=by
 unfold vR
 have e1:(3≤s.length∧s.head? = some 120∧s[1]? = some 39∧s.getLast? = some 39∧s.length % 2=1)↔(3≤s.length∧s.getD 0 0=120∧s.getD 1 0=39∧s.getD (s.length-1) 0=39∧s.length % 2=1):=by
  refine and_congr_right fun h=>?_;rw [List.head?_eq_getElem?,List.getLast?_eq_getElem?,zh (by omega),zh (by omega),zh (by omega)]
 have e2:(2≤s.length∧s.head? = some 39∧s.getLast? = some 39)↔(2≤s.length∧s.getD 0 0=39∧s.getD (s.length-1) 0=39):=by
  refine and_congr_right fun h=>?_;rw [List.head?_eq_getElem?,List.getLast?_eq_getElem?,zh (by omega),zh (by omega)]
 simp only [e1,e2]
theorem Nn (k:Int) (b:W):Bc k 6 3 (some b)=GU k 0 b:=rfl
theorem TL {x y:Nat} (hx:x < 16) (hy:y < 16):IntKind.u8.wrap (IntKind.i64.wrap (IntKind.i64.wrap (16*(x:Int))+(y:Int)))=((UInt8.ofNat (16*x+y)).toNat:Int):=by
 have:∀a b:Fin 16,IntKind.u8.wrap (IntKind.i64.wrap (IntKind.i64.wrap (16*(a.val:Int))+(b.val:Int)))=((UInt8.ofNat (16*a.val+b.val)).toNat:Int):=by decide +kernel
 exact this ⟨x,hx⟩ ⟨y,hy⟩
abbrev jZ (s:W):bQ→Prop:=rR (Tryz.f47.results.toList) 0 (fun r o=>r=SY (vR s)∧o=[])
set_option maxHeartbeats 4000000 in
theorem Np (s:W) (hs:s.length≤1000000) (h3:3≤s.length) (ho:s.length % 2=1) (hv:vR s=Bc 3 6 3 (eH (inner s 2))):WK Tryz.prog 0 (av Bv 0) (Ru s [] (2:Nat)).den (jZ s):=by
 have ok:=aH jM;refine WK.rec' (fun p:W×Nat=>Ru s (fq p.1) (p.2:Int)) (fun p=>2≤p.2∧p.2≤s.length-1∧p.2 % 2=0∧p.1.length≤p.2∧eH (inner s 2)=(eH ((s.take (s.length-1)).drop p.2)).map (p.1 ++ ·)) (fun p=>s.length-p.2) ?_ ([],2) ⟨by simp,by simp only;omega,by simp,by simp,by simp [inner]⟩
 rintro ⟨pre,i⟩ ⟨hi2,hi,h2,hl,hb⟩ ih
 simp only at hi2 hi h2 hl hb;have wi:IntKind.i64.wrap ((Nat.cast (R:=Int) i)+1)=((i+1:Nat):Int):=by rw [bC _ (by omega)];omega
 by_cases he:i < s.length-1
 ·have h1:i+1 < s.length-1:=by omega
  obtain ⟨a,ha⟩:∃a,s[i]? = some a:=⟨_,List.getElem?_eq_getElem (by omega)⟩;obtain ⟨b,hb1⟩:∃b,s[i+1]? = some b:=⟨_,List.getElem?_eq_getElem (by omega)⟩;have hd:(s.take (s.length-1)).drop i=a::(s.take (s.length-1)).drop (i+1):=drop1 (by rw [take_at he];exact ha);have hd2:(s.take (s.length-1)).drop (i+1)=b::(s.take (s.length-1)).drop (i+2):=drop1 (by rw [take_at h1];exact hb1);rw [hd,hd2] at hb;obtain ⟨x,hx⟩:∃x,KE (a.toNat:Nat)=x:=⟨_,rfl⟩;obtain ⟨y,hy⟩:∃y,KE (b.toNat:Nat)=y:=⟨_,rfl⟩;have ex:=(GV a).symm.trans hx;have ey:=(GV b).symm.trans hy;have v1:=lg ha;have v2:=uw (i:=i) (by omega) hb1;have c1:=uq (n:=s.length) (i:=i) (by omega);have c2:=Dl (n:=s.length) (i:=i) (by omega) (by omega);have ca:=UInt8.toNat_lt a;have cb:=UInt8.toNat_lt b;have d1:decide ((0:Int)≤(Nat.cast (R:=Int) a.toNat)∧(Nat.cast (R:=Int) a.toNat)≤255)=true:=decide_eq_true (by omega);have d2:decide ((0:Int)≤(Nat.cast (R:=Int) b.toNat)∧(Nat.cast (R:=Int) b.toNat)≤255)=true:=decide_eq_true (by omega);have wl:decide (IntKind.i64.wrap ((Nat.cast (R:=Int) i)+1) < (Nat.cast (R:=Int) s.length))=true:=by rw [wi];exact decide_eq_true (by omega)
  cases hxa:lW a with
  | none=>
    rw [hxa] at ex;have x0:x < 0:=by simp only at ex;omega
    have hq:vR s=(0,0,[],6):=by rw [hv,hb];unfold eH;rw [hxa];rfl
    exact WK.fin ok 1000 0 [(46,aj true),(51,bK (a.toNat:Int)),(52,aA x),(56,bK (b.toNat:Int)),(57,aA y),(59,aj true)] [decide (0≤(i:Int)∧(i:Int) < ((List.length s:Nat):Int)),decide (0≤(a.toNat:Int)∧(a.toNat:Int)≤255),decide (0≤IntKind.i64.wrap ((i:Int)+1)∧IntKind.i64.wrap ((i:Int)+1) < ((List.length s:Nat):Int)),decide (0≤(b.toNat:Int)∧(b.toNat:Int)≤255)] [(aj (decide (IntKind.i64.wrap ((i:Int)+1) < ((List.length s:Nat):Int))),aj true),(bK ((List.getD s (i:Int).toNat (0:UInt8)).toNat:Int),bK (a.toNat:Int)),(aA (Go.Proofs.YtjoefbioobdinaaGreatDoor.KE (a.toNat:Int)),aA x),(bK ((List.getD s (IntKind.i64.wrap ((i:Int)+1)).toNat (0:UInt8)).toNat:Int),bK (b.toNat:Int)),(aA (Go.Proofs.YtjoefbioobdinaaGreatDoor.KE (b.toNat:Int)),aA y),(aj (decide (x < 0)),aj true)] rfl (by kernel_rfl:au (bq sQ) true _ 1000 0 _ _ (Ru s (fq pre) (i:Int))=some (RV.aZ [RV.d (DV.agg [aU (0),aI (0),DV.str []]),aA (6)],[],_,_)) (by refine ⟨?_,?_,?_,?_,trivial⟩<;>(first | rfl | exact c1 | exact c2 | exact d1 | exact d2)) (by refine ⟨?_,?_,?_,?_,?_,?_,trivial⟩<;>(first | exact ah wl | exact v1 | exact v2 | exact .of_eq (by rw [hx]) | exact .of_eq (by rw [hy]) | exact ah (decide_eq_true (by omega)) | exact ah rfl)) ⟨by rw [hq];rfl,rfl⟩
  | some k=>
    rw [hxa] at ex;have hk:=xH hxa;simp only at ex;cases hyb:lW b with
    | none=>
      rw [hyb] at ey;have y0:y < 0:=by simp only at ey;omega
      have hq:vR s=(0,0,[],6):=by rw [hv,hb];unfold eH;rw [hxa,hyb];rfl
      exact WK.fin ok 1000 0 [(46,aj true),(51,bK (a.toNat:Int)),(52,aA x),(56,bK (b.toNat:Int)),(57,aA y),(59,aj false),(62,aj true)] [decide (0≤(i:Int)∧(i:Int) < ((List.length s:Nat):Int)),decide (0≤(a.toNat:Int)∧(a.toNat:Int)≤255),decide (0≤IntKind.i64.wrap ((i:Int)+1)∧IntKind.i64.wrap ((i:Int)+1) < ((List.length s:Nat):Int)),decide (0≤(b.toNat:Int)∧(b.toNat:Int)≤255)] [(aj (decide (IntKind.i64.wrap ((i:Int)+1) < ((List.length s:Nat):Int))),aj true),(bK ((List.getD s (i:Int).toNat (0:UInt8)).toNat:Int),bK (a.toNat:Int)),(aA (Go.Proofs.YtjoefbioobdinaaGreatDoor.KE (a.toNat:Int)),aA x),(bK ((List.getD s (IntKind.i64.wrap ((i:Int)+1)).toNat (0:UInt8)).toNat:Int),bK (b.toNat:Int)),(aA (Go.Proofs.YtjoefbioobdinaaGreatDoor.KE (b.toNat:Int)),aA y),(aj (decide (x < 0)),aj false),(aj (decide (y < 0)),aj true)] rfl (by kernel_rfl:au (bq sQ) true _ 1000 0 _ _ (Ru s (fq pre) (i:Int))=some (RV.aZ [RV.d (DV.agg [aU (0),aI (0),DV.str []]),aA (6)],[],_,_)) (by refine ⟨?_,?_,?_,?_,trivial⟩<;>(first | rfl | exact c1 | exact c2 | exact d1 | exact d2)) (by refine ⟨?_,?_,?_,?_,?_,?_,?_,trivial⟩<;>(first | exact ah wl | exact v1 | exact v2 | exact .of_eq (by rw [hx]) | exact .of_eq (by rw [hy]) | exact ah (decide_eq_false (by omega)) | exact ah (decide_eq_true (by omega)) | exact ah rfl)) ⟨by rw [hq];rfl,rfl⟩
    | some j=>
      rw [hyb] at ey;have hj:=xH hyb;simp only at ey;have c9:∀z,decide (((fq pre).length+[DV.int .u8 z].length)*1≤2 ^ 38)=true:=fun z=>decide_eq_true (by unfold fq;rw [List.length_map];simp only [List.length_cons,List.length_nil];omega);have v3:=I6 (i:=i) (by omega)
      have hn:=ih (pre++[UInt8.ofNat (16*k+j)],i+2) ⟨by simp only;omega,by simp only;omega,by simp only;omega,by rw [List.length_append];simp only [List.length_cons,List.length_nil];omega,by
       rw [hb,yZ _ hxa hyb,Option.map_map];congr 1;funext q;simp⟩ (by simp only;omega)
      have e5:fq (pre++[UInt8.ofNat (16*k+j)])=fq pre++[.int .u8 (IntKind.u8.wrap (IntKind.i64.wrap (IntKind.i64.wrap (16*x)+y)))]:=by
       rw [←ex,←ey,TL hk hj];unfold fq;rw [List.map_append];rfl
      simp only at hn;rw [e5] at hn;refine WK.cZ ok 1000 0 [(46,aj true),(51,bK (a.toNat:Int)),(52,aA x),(56,bK (b.toNat:Int)),(57,aA y),(59,aj false),(62,aj false),(48,aA ((i+2:Nat):Int))] [] [0,2,4,5] [decide (0≤(i:Int)∧(i:Int) < ((List.length s:Nat):Int)),decide (0≤(a.toNat:Int)∧(a.toNat:Int)≤255),decide (0≤IntKind.i64.wrap ((i:Int)+1)∧IntKind.i64.wrap ((i:Int)+1) < ((List.length s:Nat):Int)),decide (0≤(b.toNat:Int)∧(b.toNat:Int)≤255),decide (((fq pre).length+[aU (IntKind.u8.wrap (IntKind.i64.wrap (IntKind.i64.wrap (16*x)+y)))].length)*Go.Proofs.Tryz.prog.types[5].bytes≤2 ^ 38)] [(aj (decide (IntKind.i64.wrap ((i:Int)+1) < ((List.length s:Nat):Int))),aj true),(bK ((List.getD s (i:Int).toNat (0:UInt8)).toNat:Int),bK (a.toNat:Int)),(aA (Go.Proofs.YtjoefbioobdinaaGreatDoor.KE (a.toNat:Int)),aA x),(bK ((List.getD s (IntKind.i64.wrap ((i:Int)+1)).toNat (0:UInt8)).toNat:Int),bK (b.toNat:Int)),(aA (Go.Proofs.YtjoefbioobdinaaGreatDoor.KE (b.toNat:Int)),aA y),(aj (decide (x < 0)),aj false),(aj (decide (y < 0)),aj false),(aA (IntKind.i64.wrap ((i:Int)+2)),aA ((i+2:Nat):Int))] rfl (by kernel_rfl:aJ (bq sQ) 1000 0 _ _ _ _ (Ru s (fq pre) (i:Int))=some (av Bv 0,Ru s (fq pre++[.int .u8 (IntKind.u8.wrap (IntKind.i64.wrap (IntKind.i64.wrap (16*x)+y)))]) ((i+2:Nat):Int),_,_)) (by refine ⟨?_,?_,?_,?_,?_,trivial⟩<;>(first | rfl | exact c1 | exact c2 | exact d1 | exact d2 | exact c9 _)) (by refine ⟨?_,?_,?_,?_,?_,?_,?_,?_,trivial⟩<;>(first | exact ah wl | exact v1 | exact v2 | exact v3 | exact .of_eq (by rw [hx]) | exact .of_eq (by rw [hy]) | exact ah (decide_eq_false (by omega)) | exact ah rfl)) ?_
      exact hn
 ·have hq:vR s=GU 3 0 pre:=by rw [hv,hb,je (by omega)];simp [eH,Nn]
  have c4:(fq pre).all DV.isByte=true:=oC pre;have wl:decide (IntKind.i64.wrap ((Nat.cast (R:=Int) i)+1) < (Nat.cast (R:=Int) s.length))=false:=by rw [wi];exact decide_eq_false (by omega)
  exact WK.fin ok 1000 0 [(46,aj false)] [(fq pre).all DV.isByte] [(aj (decide (IntKind.i64.wrap ((i:Int)+1) < ((List.length s:Nat):Int))),aj false)] rfl (by kernel_rfl:au (bq sQ) true _ 1000 0 _ _ (Ru s (fq pre) (i:Int))=some (RV.aZ [RV.d (DV.agg [aU (Go.Proofs.YtjoefbioobdinaaGreatDoor.GU (3) (0) (List.map DV.byte (fq pre))).1,aI (Go.Proofs.YtjoefbioobdinaaGreatDoor.GU (3) (0) (List.map DV.byte (fq pre))).snd.1,DV.str (Go.Proofs.YtjoefbioobdinaaGreatDoor.GU (3) (0) (List.map DV.byte (fq pre))).snd.snd.1]),aA (Go.Proofs.YtjoefbioobdinaaGreatDoor.GU (3) (0) (List.map DV.byte (fq pre))).snd.snd.2],[],_,_)) ⟨(by first | rfl | exact c4),trivial⟩ ⟨(by first | exact ah wl | exact ah rfl),trivial⟩ ⟨by rw [hq,pQ];rfl,rfl⟩
set_option maxHeartbeats 4000000 in
theorem Fh (s:W) (hs:s.length≤1000000) (h2:2≤s.length) (hv:vR s=Bc 2 6 3 (iK (inner s 1))):WK Tryz.prog 0 (av Bv 1) (Nl s [] (1:Nat)).den (jZ s):=by
 have ok:=aH jM;refine WK.rec' (fun p:W×Nat=>Nl s (fq p.1) (p.2:Int)) (fun p=>1≤p.2∧p.2≤s.length-1∧p.1.length≤p.2∧iK (inner s 1)=(iK ((s.take (s.length-1)).drop p.2)).map (p.1 ++ ·)) (fun p=>s.length-p.2) ?_ ([],1) ⟨by simp,by simp only;omega,by simp,by simp [inner]⟩
 rintro ⟨pre,i⟩ ⟨hi1,hi,hl,hb⟩ ih
 simp only at hi1 hi hl hb;have wr:IntKind.i64.wrap ((Nat.cast (R:=Int) s.length)-1)=((s.length-1:Nat):Int):=by rw [bC _ (by omega)];omega
 have wi:IntKind.i64.wrap ((Nat.cast (R:=Int) i)+1)=((i+1:Nat):Int):=by rw [bC _ (by omega)];omega
 have c9:∀z,decide (((fq pre).length+[DV.int .u8 z].length)*1≤2 ^ 38)=true:=fun z=>decide_eq_true (by unfold fq;rw [List.length_map];simp only [List.length_cons,List.length_nil];omega);by_cases he:i < s.length-1
 ·have ci:=uq (n:=s.length) (i:=i) (by omega);obtain ⟨a,ha⟩:∃a,s[i]? = some a:=⟨_,List.getElem?_eq_getElem (by omega)⟩;have v1:=lg ha;have wl:decide ((Nat.cast (R:=Int) i) < IntKind.i64.wrap ((Nat.cast (R:=Int) s.length)-1))=true:=by rw [wr];exact decide_eq_true (by omega)
  have hd:(s.take (s.length-1)).drop i=a::(s.take (s.length-1)).drop (i+1):=drop1 (by rw [take_at he];exact ha);rw [hd] at hb;by_cases zy:a=39
  ·by_cases hz:i+1=s.length-1
   ·have hq:vR s=(0,0,[],6):=by rw [hv,hb,je (by omega),zy,Bn];rfl
    have wz:decide (IntKind.i64.wrap ((Nat.cast (R:=Int) s.length)-1)≤IntKind.i64.wrap ((Nat.cast (R:=Int) i)+1))=true:=by rw [wr,wi];exact decide_eq_true (by omega)
    exact WK.fin ok 1000 0 [(99,aj true),(104,bK (a.toNat:Int)),(105,aj true),(111,aj true)] [decide (0≤(i:Int)∧(i:Int) < ((List.length s:Nat):Int))] [(aj (decide ((i:Int) < IntKind.i64.wrap (((List.length s:Nat):Int)-1))),aj true),(bK ((List.getD s (i:Int).toNat (0:UInt8)).toNat:Int),bK (a.toNat:Int)),(aj ((a.toNat:Int)==39),aj true),(aj (decide (IntKind.i64.wrap (((List.length s:Nat):Int)-1)≤IntKind.i64.wrap ((i:Int)+1))),aj true)] rfl (by kernel_rfl:au (bq sQ) true _ 1000 0 _ _ (Nl s (fq pre) (i:Int))=some (RV.aZ [RV.d (DV.agg [aU (0),aI (0),DV.str []]),aA (6)],[],_,_)) ⟨(by first | rfl | exact ci),trivial⟩ (by refine ⟨?_,?_,?_,?_,trivial⟩<;>(first | exact ah rfl | exact v1 | exact ah (J6 zy) | exact ah wl | exact ah wz)) ⟨by rw [hq];rfl,rfl⟩
   ·have hi2:i+1 < s.length-1:=by omega
    obtain ⟨b,hb1⟩:∃b,s[i+1]? = some b:=⟨_,List.getElem?_eq_getElem (by omega)⟩;have v2:=uw (i:=i) (by omega) hb1;have c2:=Dl (n:=s.length) (i:=i) (by omega) (by omega);have wz:decide (IntKind.i64.wrap ((Nat.cast (R:=Int) s.length)-1)≤IntKind.i64.wrap ((Nat.cast (R:=Int) i)+1))=false:=by rw [wr,wi];exact decide_eq_false (by omega)
    have hd2:(s.take (s.length-1)).drop (i+1)=b::(s.take (s.length-1)).drop (i+2):=drop1 (by rw [take_at hi2];exact hb1);rw [hd2,zy] at hb;by_cases GN:b=39
    ·rw [GN,Bo,Option.map_map] at hb
     have hk2:=ih (pre++[b],i+2) ⟨by simp only;omega,by simp only;omega,by rw [List.length_append];simp only [List.length_cons,List.length_nil];omega,by
      rw [hb];congr 1;funext q;simp [GN]⟩ (by simp only;omega)
     have e6:((i+2:Nat):Int)=IntKind.i64.wrap (IntKind.i64.wrap ((Nat.cast (R:=Int) i)+1)+1):=by rw [wi,bC _ (by omega)];omega
     simp only at hk2;rw [nR,e6] at hk2;refine WK.cZ ok 1000 0 [(99,aj true),(104,bK (a.toNat:Int)),(105,aj true),(111,aj false),(116,bK (b.toNat:Int)),(117,aj false),(125,bK (b.toNat:Int))] [] [0,2,8,9] [decide (0≤(i:Int)∧(i:Int) < ((List.length s:Nat):Int)),decide (0≤IntKind.i64.wrap ((i:Int)+1)∧IntKind.i64.wrap ((i:Int)+1) < ((List.length s:Nat):Int)),decide (0≤IntKind.i64.wrap ((i:Int)+1)∧IntKind.i64.wrap ((i:Int)+1) < ((List.length s:Nat):Int)),decide (((fq pre).length+[aU (b.toNat:Int)].length)*Go.Proofs.Tryz.prog.types[5].bytes≤2 ^ 38)] [(aj (decide ((i:Int) < IntKind.i64.wrap (((List.length s:Nat):Int)-1))),aj true),(bK ((List.getD s (i:Int).toNat (0:UInt8)).toNat:Int),bK (a.toNat:Int)),(aj ((a.toNat:Int)==39),aj true),(aj (decide (IntKind.i64.wrap (((List.length s:Nat):Int)-1)≤IntKind.i64.wrap ((i:Int)+1))),aj false),(bK ((List.getD s (IntKind.i64.wrap ((i:Int)+1)).toNat (0:UInt8)).toNat:Int),bK (b.toNat:Int)),(aj ((b.toNat:Int) != 39),aj false),(bK ((List.getD s (IntKind.i64.wrap ((i:Int)+1)).toNat (0:UInt8)).toNat:Int),bK (b.toNat:Int))] rfl (by kernel_rfl:aJ (bq sQ) 1000 0 _ _ _ _ (Nl s (fq pre) (i:Int))=some (av Bv 1,Nl s (fq pre++[.int .u8 (b.toNat:Int)]) (IntKind.i64.wrap (IntKind.i64.wrap ((i:Int)+1)+1)),_,_)) (by refine ⟨?_,?_,?_,?_,trivial⟩<;>(first | rfl | exact ci | exact c2 | exact c9 _)) (by refine ⟨?_,?_,?_,?_,?_,?_,?_,trivial⟩<;>(first | exact ah rfl | exact v1 | exact v2 | exact ah (J6 zy) | exact ah (MI GN) | exact ah wl | exact ah wz)) ?_
     exact hk2
    ·have hq:vR s=(0,0,[],6):=by rw [hv,hb,Bp _ GN];rfl
     exact WK.fin ok 1000 0 [(99,aj true),(104,bK (a.toNat:Int)),(105,aj true),(111,aj false),(116,bK (b.toNat:Int)),(117,aj true)] [decide (0≤(i:Int)∧(i:Int) < ((List.length s:Nat):Int)),decide (0≤IntKind.i64.wrap ((i:Int)+1)∧IntKind.i64.wrap ((i:Int)+1) < ((List.length s:Nat):Int))] [(aj (decide ((i:Int) < IntKind.i64.wrap (((List.length s:Nat):Int)-1))),aj true),(bK ((List.getD s (i:Int).toNat (0:UInt8)).toNat:Int),bK (a.toNat:Int)),(aj ((a.toNat:Int)==39),aj true),(aj (decide (IntKind.i64.wrap (((List.length s:Nat):Int)-1)≤IntKind.i64.wrap ((i:Int)+1))),aj false),(bK ((List.getD s (IntKind.i64.wrap ((i:Int)+1)).toNat (0:UInt8)).toNat:Int),bK (b.toNat:Int)),(aj ((b.toNat:Int) != 39),aj true)] rfl (by kernel_rfl:au (bq sQ) true _ 1000 0 _ _ (Nl s (fq pre) (i:Int))=some (RV.aZ [RV.d (DV.agg [aU (0),aI (0),DV.str []]),aA (6)],[],_,_)) (by refine ⟨?_,?_,trivial⟩<;>(first | rfl | exact ci | exact c2)) (by refine ⟨?_,?_,?_,?_,?_,?_,trivial⟩<;>(first | exact ah rfl | exact v1 | exact v2 | exact ah (J6 zy) | exact ah (MJ GN) | exact ah wl | exact ah wz)) ⟨by rw [hq];rfl,rfl⟩
  ·rw [y7 _ zy,Option.map_map] at hb
   have hk2:=ih (pre++[a],i+1) ⟨by simp only;omega,by simp only;omega,by rw [List.length_append];simp only [List.length_cons,List.length_nil];omega,by
    rw [hb];congr 1;funext q;simp⟩ (by simp only;omega)
   simp only at hk2;rw [nR,←wi] at hk2;refine WK.cZ ok 1000 0 [(99,aj true),(104,bK (a.toNat:Int)),(105,aj false),(125,bK (a.toNat:Int))] [] [0,2,8,9] [decide (0≤(i:Int)∧(i:Int) < ((List.length s:Nat):Int)),decide (0≤(i:Int)∧(i:Int) < ((List.length s:Nat):Int)),decide (((fq pre).length+[aU (a.toNat:Int)].length)*Go.Proofs.Tryz.prog.types[5].bytes≤2 ^ 38)] [(aj (decide ((i:Int) < IntKind.i64.wrap (((List.length s:Nat):Int)-1))),aj true),(bK ((List.getD s (i:Int).toNat (0:UInt8)).toNat:Int),bK (a.toNat:Int)),(aj ((a.toNat:Int)==39),aj false),(bK ((List.getD s (i:Int).toNat (0:UInt8)).toNat:Int),bK (a.toNat:Int))] rfl (by kernel_rfl:aJ (bq sQ) 1000 0 _ _ _ _ (Nl s (fq pre) (i:Int))=some (av Bv 1,Nl s (fq pre++[.int .u8 (a.toNat:Int)]) (IntKind.i64.wrap ((i:Int)+1)),_,_)) (by refine ⟨?_,?_,?_,trivial⟩<;>(first | rfl | exact ci | exact c9 _)) (by refine ⟨?_,?_,?_,?_,trivial⟩<;>(first | exact ah rfl | exact v1 | exact ah (Xy zy) | exact ah wl)) ?_
   exact hk2
 ·have hq:vR s=GU 2 0 pre:=by rw [hv,hb,je (by omega)];simp [iK,Nn]
  have c4:(fq pre).all DV.isByte=true:=oC pre;have wl:decide ((Nat.cast (R:=Int) i) < IntKind.i64.wrap ((Nat.cast (R:=Int) s.length)-1))=false:=by rw [wr];exact decide_eq_false (by omega)
  exact WK.fin ok 1000 0 [(99,aj false)] [(fq pre).all DV.isByte] [(aj (decide ((i:Int) < IntKind.i64.wrap (((List.length s:Nat):Int)-1))),aj false)] rfl (by kernel_rfl:au (bq sQ) true _ 1000 0 _ _ (Nl s (fq pre) (i:Int))=some (RV.aZ [RV.d (DV.agg [aU (Go.Proofs.YtjoefbioobdinaaGreatDoor.GU (2) (0) (List.map DV.byte (fq pre))).1,aI (Go.Proofs.YtjoefbioobdinaaGreatDoor.GU (2) (0) (List.map DV.byte (fq pre))).snd.1,DV.str (Go.Proofs.YtjoefbioobdinaaGreatDoor.GU (2) (0) (List.map DV.byte (fq pre))).snd.snd.1]),aA (Go.Proofs.YtjoefbioobdinaaGreatDoor.GU (2) (0) (List.map DV.byte (fq pre))).snd.snd.2],[],_,_)) ⟨(by first | rfl | exact c4),trivial⟩ ⟨(by first | exact ah rfl | exact ah wl),trivial⟩ ⟨by rw [hq,pQ];rfl,rfl⟩
set_option maxHeartbeats 4000000 in
theorem XO (s:W) (hs:s.length≤1000000) (h0:s≠uJ) (a1:¬2≤s.length):WK Tryz.prog 0 [.code Bv] (dz 144 [.d (.str s)] []).den (jZ s):=by
 have ok:=aH jM;have e0:=kT h0;have b2:decide (s.length≤1000000)=true:=decide_eq_true hs;cases hk:(iw s).2 with
 | true=>
   have ho:yY s=true:=(iL s).symm.trans hk;obtain ⟨n,hn⟩:∃n,(iw s).1=n:=⟨_,rfl⟩;have hq:vR s=(1,n,[],0):=by rw [jE,if_neg h0,if_neg (fun h=>a1 (by omega)),if_neg (fun h=>a1 h.1),if_pos ho,←mI s ho,hn]
   exact WK.fin ok 1000 0 [(13,aj false),(17,aj false),(81,aj false),(137,aA n),(138,aj true)] [decide (List.length s≤1000000)] [(aj (s==[(78:UInt8),(85:UInt8),(76:UInt8),(76:UInt8)]),aj false),(aj (decide (3≤((List.length s:Nat):Int))),aj false),(aj (decide (2≤((List.length s:Nat):Int))),aj false),(aA (Go.Proofs.YtjoefbioobdinaaGreatDoor.iw s).1,aA n),(aj (Go.Proofs.YtjoefbioobdinaaGreatDoor.iw s).2,aj true)] rfl (by kernel_rfl:au (bq sQ) true _ 1000 0 _ _ (dz 144 [.d (.str s)] [])=some (RV.aZ [RV.d (DV.agg [aU (1),aI n,DV.str []]),aA (0)],[],_,_)) ⟨(by first | rfl | exact c0 | exact c1 | exact cl | exact b2),trivial⟩ (by refine ⟨?_,?_,?_,?_,?_,trivial⟩<;>(first | exact ah e0 | exact ah wY | exact ah vL | exact ah zB | exact ah wZ | exact ah ft | exact ah rfl | exact .of_eq (by rw [hn]) | exact .of_eq (by rw [hk]) | exact ah (decide_eq_true (by omega)) | exact ah (decide_eq_false (by omega)))) ⟨by rw [hq];rfl,rfl⟩
 | false=>
   have ho:yY s=false:=(iL s).symm.trans hk;obtain ⟨n,hn⟩:∃n,(iw s).1=n:=⟨_,rfl⟩;have hq:vR s=(0,0,[],6):=by rw [jE,if_neg h0,if_neg (fun h=>a1 (by omega)),if_neg (fun h=>a1 h.1),if_neg (by rw [ho];simp)]
   exact WK.fin ok 1000 0 [(13,aj false),(17,aj false),(81,aj false),(137,aA n),(138,aj false)] [decide (List.length s≤1000000)] [(aj (s==[(78:UInt8),(85:UInt8),(76:UInt8),(76:UInt8)]),aj false),(aj (decide (3≤((List.length s:Nat):Int))),aj false),(aj (decide (2≤((List.length s:Nat):Int))),aj false),(aA (Go.Proofs.YtjoefbioobdinaaGreatDoor.iw s).1,aA n),(aj (Go.Proofs.YtjoefbioobdinaaGreatDoor.iw s).2,aj false)] rfl (by kernel_rfl:au (bq sQ) true _ 1000 0 _ _ (dz 144 [.d (.str s)] [])=some (RV.aZ [RV.d (DV.agg [aU (0),aI (0),DV.str []]),aA (6)],[],_,_)) ⟨(by first | rfl | exact c0 | exact c1 | exact cl | exact b2),trivial⟩ (by refine ⟨?_,?_,?_,?_,?_,trivial⟩<;>(first | exact ah e0 | exact ah wY | exact ah vL | exact ah zB | exact ah wZ | exact ah ft | exact ah rfl | exact .of_eq (by rw [hn]) | exact .of_eq (by rw [hk]) | exact ah (decide_eq_true (by omega)) | exact ah (decide_eq_false (by omega)))) ⟨by rw [hq];rfl,rfl⟩
set_option maxHeartbeats 4000000 in
theorem XP (s:W) (hs:s.length≤1000000) (h0:s≠uJ) (a1:¬3≤s.length) (b1:2≤s.length) (DU:s.getD 0 0≠39):WK Tryz.prog 0 [.code Bv] (dz 144 [.d (.str s)] []).den (jZ s):=by
 have ok:=aH jM;have e0:=kT h0;have b2:decide (s.length≤1000000)=true:=decide_eq_true hs;have c0:decide ((0:Int)≤0∧0 < (Nat.cast (R:=Int) s.length))=true:=decide_eq_true (by omega);have vL:((Nat.cast (R:=Int) (s.getD 0 0).toNat)==39)=false:=zA (k:=39) (by omega) DU;cases hk:(iw s).2 with
 | true=>
   have ho:yY s=true:=(iL s).symm.trans hk;obtain ⟨n,hn⟩:∃n,(iw s).1=n:=⟨_,rfl⟩;have hq:vR s=(1,n,[],0):=by rw [jE,if_neg h0,if_neg (fun h=>a1 h.1),if_neg (fun h=>DU h.2.1),if_pos ho,←mI s ho,hn]
   exact WK.fin ok 1000 0 [(13,aj false),(17,aj false),(81,aj true),(85,aj false),(137,aA n),(138,aj true)] [decide ((0:Int)≤0∧(0:Int) < ((List.length s:Nat):Int)),decide (List.length s≤1000000)] [(aj (s==[(78:UInt8),(85:UInt8),(76:UInt8),(76:UInt8)]),aj false),(aj (decide (3≤((List.length s:Nat):Int))),aj false),(aj (decide (2≤((List.length s:Nat):Int))),aj true),(aj (((List.getD s 0 (0:UInt8)).toNat:Int)==39),aj false),(aA (Go.Proofs.YtjoefbioobdinaaGreatDoor.iw s).1,aA n),(aj (Go.Proofs.YtjoefbioobdinaaGreatDoor.iw s).2,aj true)] rfl (by kernel_rfl:au (bq sQ) true _ 1000 0 _ _ (dz 144 [.d (.str s)] [])=some (RV.aZ [RV.d (DV.agg [aU (1),aI n,DV.str []]),aA (0)],[],_,_)) (by refine ⟨?_,?_,trivial⟩<;>(first | rfl | exact c0 | exact c1 | exact cl | exact b2)) (by refine ⟨?_,?_,?_,?_,?_,?_,trivial⟩<;>(first | exact ah e0 | exact ah wY | exact ah vL | exact ah zB | exact ah wZ | exact ah ft | exact ah rfl | exact .of_eq (by rw [hn]) | exact .of_eq (by rw [hk]) | exact ah (decide_eq_true (by omega)) | exact ah (decide_eq_false (by omega)))) ⟨by rw [hq];rfl,rfl⟩
 | false=>
   have ho:yY s=false:=(iL s).symm.trans hk;obtain ⟨n,hn⟩:∃n,(iw s).1=n:=⟨_,rfl⟩;have hq:vR s=(0,0,[],6):=by rw [jE,if_neg h0,if_neg (fun h=>a1 h.1),if_neg (fun h=>DU h.2.1),if_neg (by rw [ho];simp)]
   exact WK.fin ok 1000 0 [(13,aj false),(17,aj false),(81,aj true),(85,aj false),(137,aA n),(138,aj false)] [decide ((0:Int)≤0∧(0:Int) < ((List.length s:Nat):Int)),decide (List.length s≤1000000)] [(aj (s==[(78:UInt8),(85:UInt8),(76:UInt8),(76:UInt8)]),aj false),(aj (decide (3≤((List.length s:Nat):Int))),aj false),(aj (decide (2≤((List.length s:Nat):Int))),aj true),(aj (((List.getD s 0 (0:UInt8)).toNat:Int)==39),aj false),(aA (Go.Proofs.YtjoefbioobdinaaGreatDoor.iw s).1,aA n),(aj (Go.Proofs.YtjoefbioobdinaaGreatDoor.iw s).2,aj false)] rfl (by kernel_rfl:au (bq sQ) true _ 1000 0 _ _ (dz 144 [.d (.str s)] [])=some (RV.aZ [RV.d (DV.agg [aU (0),aI (0),DV.str []]),aA (6)],[],_,_)) (by refine ⟨?_,?_,trivial⟩<;>(first | rfl | exact c0 | exact c1 | exact cl | exact b2)) (by refine ⟨?_,?_,?_,?_,?_,?_,trivial⟩<;>(first | exact ah e0 | exact ah wY | exact ah vL | exact ah zB | exact ah wZ | exact ah ft | exact ah rfl | exact .of_eq (by rw [hn]) | exact .of_eq (by rw [hk]) | exact ah (decide_eq_true (by omega)) | exact ah (decide_eq_false (by omega)))) ⟨by rw [hq];rfl,rfl⟩
set_option maxHeartbeats 4000000 in
theorem XQ (s:W) (hs:s.length≤1000000) (h0:s≠uJ) (a1:¬3≤s.length) (b1:2≤s.length) (DU:s.getD 0 0=39) (b3:s.getD (s.length-1) 0≠39):WK Tryz.prog 0 [.code Bv] (dz 144 [.d (.str s)] []).den (jZ s):=by
 have ok:=aH jM;have e0:=kT h0;have b2:decide (s.length≤1000000)=true:=decide_eq_true hs;have c0:decide ((0:Int)≤0∧0 < (Nat.cast (R:=Int) s.length))=true:=decide_eq_true (by omega);have wr:IntKind.i64.wrap ((Nat.cast (R:=Int) s.length)-1)=((s.length-1:Nat):Int):=by rw [bC _ (by omega)];omega
 have cl:decide ((0:Int)≤IntKind.i64.wrap ((Nat.cast (R:=Int) s.length)-1)∧IntKind.i64.wrap ((Nat.cast (R:=Int) s.length)-1) < (Nat.cast (R:=Int) s.length))=true:=by rw [wr];exact decide_eq_true (by omega)
 have vL:((Nat.cast (R:=Int) (s.getD 0 0).toNat)==39)=true:=xK (k:=39) (by omega) DU;have wZ:((Nat.cast (R:=Int) (s.getD (IntKind.i64.wrap ((Nat.cast (R:=Int) s.length)-1)).toNat 0).toNat)==39)=false:=by rw [wr,Int.toNat_natCast];exact zA (k:=39) (by omega) b3
 cases hk:(iw s).2 with
 | true=>
   have ho:yY s=true:=(iL s).symm.trans hk;obtain ⟨n,hn⟩:∃n,(iw s).1=n:=⟨_,rfl⟩;have hq:vR s=(1,n,[],0):=by rw [jE,if_neg h0,if_neg (fun h=>a1 h.1),if_neg (fun h=>b3 h.2.2),if_pos ho,←mI s ho,hn]
   exact WK.fin ok 1000 0 [(13,aj false),(17,aj false),(81,aj true),(85,aj true),(93,aj false),(137,aA n),(138,aj true)] [decide ((0:Int)≤0∧(0:Int) < ((List.length s:Nat):Int)),decide (0≤IntKind.i64.wrap (((List.length s:Nat):Int)-1)∧IntKind.i64.wrap (((List.length s:Nat):Int)-1) < ((List.length s:Nat):Int)),decide (List.length s≤1000000)] [(aj (s==[(78:UInt8),(85:UInt8),(76:UInt8),(76:UInt8)]),aj false),(aj (decide (3≤((List.length s:Nat):Int))),aj false),(aj (decide (2≤((List.length s:Nat):Int))),aj true),(aj (((List.getD s 0 (0:UInt8)).toNat:Int)==39),aj true),(aj (((List.getD s (IntKind.i64.wrap (((List.length s:Nat):Int)-1)).toNat (0:UInt8)).toNat:Int)==39),aj false),(aA (Go.Proofs.YtjoefbioobdinaaGreatDoor.iw s).1,aA n),(aj (Go.Proofs.YtjoefbioobdinaaGreatDoor.iw s).2,aj true)] rfl (by kernel_rfl:au (bq sQ) true _ 1000 0 _ _ (dz 144 [.d (.str s)] [])=some (RV.aZ [RV.d (DV.agg [aU (1),aI n,DV.str []]),aA (0)],[],_,_)) (by refine ⟨?_,?_,?_,trivial⟩<;>(first | rfl | exact c0 | exact c1 | exact cl | exact b2)) (by refine ⟨?_,?_,?_,?_,?_,?_,?_,trivial⟩<;>(first | exact ah e0 | exact ah wY | exact ah vL | exact ah zB | exact ah wZ | exact ah ft | exact ah rfl | exact .of_eq (by rw [hn]) | exact .of_eq (by rw [hk]) | exact ah (decide_eq_true (by omega)) | exact ah (decide_eq_false (by omega)))) ⟨by rw [hq];rfl,rfl⟩
 | false=>
   have ho:yY s=false:=(iL s).symm.trans hk;obtain ⟨n,hn⟩:∃n,(iw s).1=n:=⟨_,rfl⟩;have hq:vR s=(0,0,[],6):=by rw [jE,if_neg h0,if_neg (fun h=>a1 h.1),if_neg (fun h=>b3 h.2.2),if_neg (by rw [ho];simp)]
   exact WK.fin ok 1000 0 [(13,aj false),(17,aj false),(81,aj true),(85,aj true),(93,aj false),(137,aA n),(138,aj false)] [decide ((0:Int)≤0∧(0:Int) < ((List.length s:Nat):Int)),decide (0≤IntKind.i64.wrap (((List.length s:Nat):Int)-1)∧IntKind.i64.wrap (((List.length s:Nat):Int)-1) < ((List.length s:Nat):Int)),decide (List.length s≤1000000)] [(aj (s==[(78:UInt8),(85:UInt8),(76:UInt8),(76:UInt8)]),aj false),(aj (decide (3≤((List.length s:Nat):Int))),aj false),(aj (decide (2≤((List.length s:Nat):Int))),aj true),(aj (((List.getD s 0 (0:UInt8)).toNat:Int)==39),aj true),(aj (((List.getD s (IntKind.i64.wrap (((List.length s:Nat):Int)-1)).toNat (0:UInt8)).toNat:Int)==39),aj false),(aA (Go.Proofs.YtjoefbioobdinaaGreatDoor.iw s).1,aA n),(aj (Go.Proofs.YtjoefbioobdinaaGreatDoor.iw s).2,aj false)] rfl (by kernel_rfl:au (bq sQ) true _ 1000 0 _ _ (dz 144 [.d (.str s)] [])=some (RV.aZ [RV.d (DV.agg [aU (0),aI (0),DV.str []]),aA (6)],[],_,_)) (by refine ⟨?_,?_,?_,trivial⟩<;>(first | rfl | exact c0 | exact c1 | exact cl | exact b2)) (by refine ⟨?_,?_,?_,?_,?_,?_,?_,trivial⟩<;>(first | exact ah e0 | exact ah wY | exact ah vL | exact ah zB | exact ah wZ | exact ah ft | exact ah rfl | exact .of_eq (by rw [hn]) | exact .of_eq (by rw [hk]) | exact ah (decide_eq_true (by omega)) | exact ah (decide_eq_false (by omega)))) ⟨by rw [hq];rfl,rfl⟩
set_option maxHeartbeats 4000000 in
theorem XR (s:W) (hs:s.length≤1000000) (h0:s≠uJ) (a1:3≤s.length) (a2:s.getD 0 0≠120) (DU:s.getD 0 0≠39):WK Tryz.prog 0 [.code Bv] (dz 144 [.d (.str s)] []).den (jZ s):=by
 have ok:=aH jM;have e0:=kT h0;have b2:decide (s.length≤1000000)=true:=decide_eq_true hs;have c0:decide ((0:Int)≤0∧0 < (Nat.cast (R:=Int) s.length))=true:=decide_eq_true (by omega);have wY:((Nat.cast (R:=Int) (s.getD 0 0).toNat)==120)=false:=zA (k:=120) (by omega) a2;have vL:((Nat.cast (R:=Int) (s.getD 0 0).toNat)==39)=false:=zA (k:=39) (by omega) DU;cases hk:(iw s).2 with
 | true=>
   have ho:yY s=true:=(iL s).symm.trans hk;obtain ⟨n,hn⟩:∃n,(iw s).1=n:=⟨_,rfl⟩;have hq:vR s=(1,n,[],0):=by rw [jE,if_neg h0,if_neg (fun h=>a2 h.2.1),if_neg (fun h=>DU h.2.1),if_pos ho,←mI s ho,hn]
   exact WK.fin ok 1000 0 [(13,aj false),(17,aj true),(21,aj false),(81,aj true),(85,aj false),(137,aA n),(138,aj true)] [decide ((0:Int)≤0∧(0:Int) < ((List.length s:Nat):Int)),decide ((0:Int)≤0∧(0:Int) < ((List.length s:Nat):Int)),decide (List.length s≤1000000)] [(aj (s==[(78:UInt8),(85:UInt8),(76:UInt8),(76:UInt8)]),aj false),(aj (decide (3≤((List.length s:Nat):Int))),aj true),(aj (((List.getD s 0 (0:UInt8)).toNat:Int)==120),aj false),(aj (decide (2≤((List.length s:Nat):Int))),aj true),(aj (((List.getD s 0 (0:UInt8)).toNat:Int)==39),aj false),(aA (Go.Proofs.YtjoefbioobdinaaGreatDoor.iw s).1,aA n),(aj (Go.Proofs.YtjoefbioobdinaaGreatDoor.iw s).2,aj true)] rfl (by kernel_rfl:au (bq sQ) true _ 1000 0 _ _ (dz 144 [.d (.str s)] [])=some (RV.aZ [RV.d (DV.agg [aU (1),aI n,DV.str []]),aA (0)],[],_,_)) (by refine ⟨?_,?_,?_,trivial⟩<;>(first | rfl | exact c0 | exact c1 | exact cl | exact b2)) (by refine ⟨?_,?_,?_,?_,?_,?_,?_,trivial⟩<;>(first | exact ah e0 | exact ah wY | exact ah vL | exact ah zB | exact ah wZ | exact ah ft | exact ah rfl | exact .of_eq (by rw [hn]) | exact .of_eq (by rw [hk]) | exact ah (decide_eq_true (by omega)) | exact ah (decide_eq_false (by omega)))) ⟨by rw [hq];rfl,rfl⟩
 | false=>
   have ho:yY s=false:=(iL s).symm.trans hk;obtain ⟨n,hn⟩:∃n,(iw s).1=n:=⟨_,rfl⟩;have hq:vR s=(0,0,[],6):=by rw [jE,if_neg h0,if_neg (fun h=>a2 h.2.1),if_neg (fun h=>DU h.2.1),if_neg (by rw [ho];simp)]
   exact WK.fin ok 1000 0 [(13,aj false),(17,aj true),(21,aj false),(81,aj true),(85,aj false),(137,aA n),(138,aj false)] [decide ((0:Int)≤0∧(0:Int) < ((List.length s:Nat):Int)),decide ((0:Int)≤0∧(0:Int) < ((List.length s:Nat):Int)),decide (List.length s≤1000000)] [(aj (s==[(78:UInt8),(85:UInt8),(76:UInt8),(76:UInt8)]),aj false),(aj (decide (3≤((List.length s:Nat):Int))),aj true),(aj (((List.getD s 0 (0:UInt8)).toNat:Int)==120),aj false),(aj (decide (2≤((List.length s:Nat):Int))),aj true),(aj (((List.getD s 0 (0:UInt8)).toNat:Int)==39),aj false),(aA (Go.Proofs.YtjoefbioobdinaaGreatDoor.iw s).1,aA n),(aj (Go.Proofs.YtjoefbioobdinaaGreatDoor.iw s).2,aj false)] rfl (by kernel_rfl:au (bq sQ) true _ 1000 0 _ _ (dz 144 [.d (.str s)] [])=some (RV.aZ [RV.d (DV.agg [aU (0),aI (0),DV.str []]),aA (6)],[],_,_)) (by refine ⟨?_,?_,?_,trivial⟩<;>(first | rfl | exact c0 | exact c1 | exact cl | exact b2)) (by refine ⟨?_,?_,?_,?_,?_,?_,?_,trivial⟩<;>(first | exact ah e0 | exact ah wY | exact ah vL | exact ah zB | exact ah wZ | exact ah ft | exact ah rfl | exact .of_eq (by rw [hn]) | exact .of_eq (by rw [hk]) | exact ah (decide_eq_true (by omega)) | exact ah (decide_eq_false (by omega)))) ⟨by rw [hq];rfl,rfl⟩
set_option maxHeartbeats 4000000 in
theorem XT (s:W) (hs:s.length≤1000000) (h0:s≠uJ) (a1:3≤s.length) (a2:s.getD 0 0≠120) (DU:s.getD 0 0=39) (b3:s.getD (s.length-1) 0≠39):WK Tryz.prog 0 [.code Bv] (dz 144 [.d (.str s)] []).den (jZ s):=by
 have ok:=aH jM;have e0:=kT h0;have b2:decide (s.length≤1000000)=true:=decide_eq_true hs;have c0:decide ((0:Int)≤0∧0 < (Nat.cast (R:=Int) s.length))=true:=decide_eq_true (by omega);have wr:IntKind.i64.wrap ((Nat.cast (R:=Int) s.length)-1)=((s.length-1:Nat):Int):=by rw [bC _ (by omega)];omega
 have cl:decide ((0:Int)≤IntKind.i64.wrap ((Nat.cast (R:=Int) s.length)-1)∧IntKind.i64.wrap ((Nat.cast (R:=Int) s.length)-1) < (Nat.cast (R:=Int) s.length))=true:=by rw [wr];exact decide_eq_true (by omega)
 have wY:((Nat.cast (R:=Int) (s.getD 0 0).toNat)==120)=false:=zA (k:=120) (by omega) a2;have vL:((Nat.cast (R:=Int) (s.getD 0 0).toNat)==39)=true:=xK (k:=39) (by omega) DU;have wZ:((Nat.cast (R:=Int) (s.getD (IntKind.i64.wrap ((Nat.cast (R:=Int) s.length)-1)).toNat 0).toNat)==39)=false:=by rw [wr,Int.toNat_natCast];exact zA (k:=39) (by omega) b3
 cases hk:(iw s).2 with
 | true=>
   have ho:yY s=true:=(iL s).symm.trans hk;obtain ⟨n,hn⟩:∃n,(iw s).1=n:=⟨_,rfl⟩;have hq:vR s=(1,n,[],0):=by rw [jE,if_neg h0,if_neg (fun h=>a2 h.2.1),if_neg (fun h=>b3 h.2.2),if_pos ho,←mI s ho,hn]
   exact WK.fin ok 1000 0 [(13,aj false),(17,aj true),(21,aj false),(81,aj true),(85,aj true),(93,aj false),(137,aA n),(138,aj true)] [decide ((0:Int)≤0∧(0:Int) < ((List.length s:Nat):Int)),decide ((0:Int)≤0∧(0:Int) < ((List.length s:Nat):Int)),decide (0≤IntKind.i64.wrap (((List.length s:Nat):Int)-1)∧IntKind.i64.wrap (((List.length s:Nat):Int)-1) < ((List.length s:Nat):Int)),decide (List.length s≤1000000)] [(aj (s==[(78:UInt8),(85:UInt8),(76:UInt8),(76:UInt8)]),aj false),(aj (decide (3≤((List.length s:Nat):Int))),aj true),(aj (((List.getD s 0 (0:UInt8)).toNat:Int)==120),aj false),(aj (decide (2≤((List.length s:Nat):Int))),aj true),(aj (((List.getD s 0 (0:UInt8)).toNat:Int)==39),aj true),(aj (((List.getD s (IntKind.i64.wrap (((List.length s:Nat):Int)-1)).toNat (0:UInt8)).toNat:Int)==39),aj false),(aA (Go.Proofs.YtjoefbioobdinaaGreatDoor.iw s).1,aA n),(aj (Go.Proofs.YtjoefbioobdinaaGreatDoor.iw s).2,aj true)] rfl (by kernel_rfl:au (bq sQ) true _ 1000 0 _ _ (dz 144 [.d (.str s)] [])=some (RV.aZ [RV.d (DV.agg [aU (1),aI n,DV.str []]),aA (0)],[],_,_)) (by refine ⟨?_,?_,?_,?_,trivial⟩<;>(first | rfl | exact c0 | exact c1 | exact cl | exact b2)) (by refine ⟨?_,?_,?_,?_,?_,?_,?_,?_,trivial⟩<;>(first | exact ah e0 | exact ah wY | exact ah vL | exact ah zB | exact ah wZ | exact ah ft | exact ah rfl | exact .of_eq (by rw [hn]) | exact .of_eq (by rw [hk]) | exact ah (decide_eq_true (by omega)) | exact ah (decide_eq_false (by omega)))) ⟨by rw [hq];rfl,rfl⟩
 | false=>
   have ho:yY s=false:=(iL s).symm.trans hk;obtain ⟨n,hn⟩:∃n,(iw s).1=n:=⟨_,rfl⟩;have hq:vR s=(0,0,[],6):=by rw [jE,if_neg h0,if_neg (fun h=>a2 h.2.1),if_neg (fun h=>b3 h.2.2),if_neg (by rw [ho];simp)]
   exact WK.fin ok 1000 0 [(13,aj false),(17,aj true),(21,aj false),(81,aj true),(85,aj true),(93,aj false),(137,aA n),(138,aj false)] [decide ((0:Int)≤0∧(0:Int) < ((List.length s:Nat):Int)),decide ((0:Int)≤0∧(0:Int) < ((List.length s:Nat):Int)),decide (0≤IntKind.i64.wrap (((List.length s:Nat):Int)-1)∧IntKind.i64.wrap (((List.length s:Nat):Int)-1) < ((List.length s:Nat):Int)),decide (List.length s≤1000000)] [(aj (s==[(78:UInt8),(85:UInt8),(76:UInt8),(76:UInt8)]),aj false),(aj (decide (3≤((List.length s:Nat):Int))),aj true),(aj (((List.getD s 0 (0:UInt8)).toNat:Int)==120),aj false),(aj (decide (2≤((List.length s:Nat):Int))),aj true),(aj (((List.getD s 0 (0:UInt8)).toNat:Int)==39),aj true),(aj (((List.getD s (IntKind.i64.wrap (((List.length s:Nat):Int)-1)).toNat (0:UInt8)).toNat:Int)==39),aj false),(aA (Go.Proofs.YtjoefbioobdinaaGreatDoor.iw s).1,aA n),(aj (Go.Proofs.YtjoefbioobdinaaGreatDoor.iw s).2,aj false)] rfl (by kernel_rfl:au (bq sQ) true _ 1000 0 _ _ (dz 144 [.d (.str s)] [])=some (RV.aZ [RV.d (DV.agg [aU (0),aI (0),DV.str []]),aA (6)],[],_,_)) (by refine ⟨?_,?_,?_,?_,trivial⟩<;>(first | rfl | exact c0 | exact c1 | exact cl | exact b2)) (by refine ⟨?_,?_,?_,?_,?_,?_,?_,?_,trivial⟩<;>(first | exact ah e0 | exact ah wY | exact ah vL | exact ah zB | exact ah wZ | exact ah ft | exact ah rfl | exact .of_eq (by rw [hn]) | exact .of_eq (by rw [hk]) | exact ah (decide_eq_true (by omega)) | exact ah (decide_eq_false (by omega)))) ⟨by rw [hq];rfl,rfl⟩
set_option maxHeartbeats 4000000 in
theorem aal (s:W) (hs:s.length≤1000000) (h0:s≠uJ) (a1:3≤s.length) (a2:s.getD 0 0=120) (a3:s.getD 1 0≠39):WK Tryz.prog 0 [.code Bv] (dz 144 [.d (.str s)] []).den (jZ s):=by
 have ok:=aH jM;have e0:=kT h0;have b2:decide (s.length≤1000000)=true:=decide_eq_true hs;have Nq:s.getD 0 0≠39:=by rw [a2];decide
 have c0:decide ((0:Int)≤0∧0 < (Nat.cast (R:=Int) s.length))=true:=decide_eq_true (by omega);have c1:decide ((0:Int)≤1∧1 < (Nat.cast (R:=Int) s.length))=true:=decide_eq_true (by omega);have wY:((Nat.cast (R:=Int) (s.getD 0 0).toNat)==120)=true:=xK (k:=120) (by omega) a2;have vL:((Nat.cast (R:=Int) (s.getD 0 0).toNat)==39)=false:=zA (k:=39) (by omega) Nq;have zB:((Nat.cast (R:=Int) (s.getD 1 0).toNat)==39)=false:=zA (k:=39) (by omega) a3;cases hk:(iw s).2 with
 | true=>
   have ho:yY s=true:=(iL s).symm.trans hk;obtain ⟨n,hn⟩:∃n,(iw s).1=n:=⟨_,rfl⟩;have hq:vR s=(1,n,[],0):=by rw [jE,if_neg h0,if_neg (fun h=>a3 h.2.2.1),if_neg (fun h=>Nq h.2.1),if_pos ho,←mI s ho,hn]
   exact WK.fin ok 1000 0 [(13,aj false),(17,aj true),(21,aj true),(26,aj false),(81,aj true),(85,aj false),(137,aA n),(138,aj true)] [decide ((0:Int)≤0∧(0:Int) < ((List.length s:Nat):Int)),decide ((0:Int)≤1∧(1:Int) < ((List.length s:Nat):Int)),decide ((0:Int)≤0∧(0:Int) < ((List.length s:Nat):Int)),decide (List.length s≤1000000)] [(aj (s==[(78:UInt8),(85:UInt8),(76:UInt8),(76:UInt8)]),aj false),(aj (decide (3≤((List.length s:Nat):Int))),aj true),(aj (((List.getD s 0 (0:UInt8)).toNat:Int)==120),aj true),(aj (((List.getD s 1 (0:UInt8)).toNat:Int)==39),aj false),(aj (decide (2≤((List.length s:Nat):Int))),aj true),(aj (((List.getD s 0 (0:UInt8)).toNat:Int)==39),aj false),(aA (Go.Proofs.YtjoefbioobdinaaGreatDoor.iw s).1,aA n),(aj (Go.Proofs.YtjoefbioobdinaaGreatDoor.iw s).2,aj true)] rfl (by kernel_rfl:au (bq sQ) true _ 1000 0 _ _ (dz 144 [.d (.str s)] [])=some (RV.aZ [RV.d (DV.agg [aU (1),aI n,DV.str []]),aA (0)],[],_,_)) (by refine ⟨?_,?_,?_,?_,trivial⟩<;>(first | rfl | exact c0 | exact c1 | exact cl | exact b2)) (by refine ⟨?_,?_,?_,?_,?_,?_,?_,?_,trivial⟩<;>(first | exact ah e0 | exact ah wY | exact ah vL | exact ah zB | exact ah wZ | exact ah ft | exact ah rfl | exact .of_eq (by rw [hn]) | exact .of_eq (by rw [hk]) | exact ah (decide_eq_true (by omega)) | exact ah (decide_eq_false (by omega)))) ⟨by rw [hq];rfl,rfl⟩
 | false=>
   have ho:yY s=false:=(iL s).symm.trans hk;obtain ⟨n,hn⟩:∃n,(iw s).1=n:=⟨_,rfl⟩;have hq:vR s=(0,0,[],6):=by rw [jE,if_neg h0,if_neg (fun h=>a3 h.2.2.1),if_neg (fun h=>Nq h.2.1),if_neg (by rw [ho];simp)]
   exact WK.fin ok 1000 0 [(13,aj false),(17,aj true),(21,aj true),(26,aj false),(81,aj true),(85,aj false),(137,aA n),(138,aj false)] [decide ((0:Int)≤0∧(0:Int) < ((List.length s:Nat):Int)),decide ((0:Int)≤1∧(1:Int) < ((List.length s:Nat):Int)),decide ((0:Int)≤0∧(0:Int) < ((List.length s:Nat):Int)),decide (List.length s≤1000000)] [(aj (s==[(78:UInt8),(85:UInt8),(76:UInt8),(76:UInt8)]),aj false),(aj (decide (3≤((List.length s:Nat):Int))),aj true),(aj (((List.getD s 0 (0:UInt8)).toNat:Int)==120),aj true),(aj (((List.getD s 1 (0:UInt8)).toNat:Int)==39),aj false),(aj (decide (2≤((List.length s:Nat):Int))),aj true),(aj (((List.getD s 0 (0:UInt8)).toNat:Int)==39),aj false),(aA (Go.Proofs.YtjoefbioobdinaaGreatDoor.iw s).1,aA n),(aj (Go.Proofs.YtjoefbioobdinaaGreatDoor.iw s).2,aj false)] rfl (by kernel_rfl:au (bq sQ) true _ 1000 0 _ _ (dz 144 [.d (.str s)] [])=some (RV.aZ [RV.d (DV.agg [aU (0),aI (0),DV.str []]),aA (6)],[],_,_)) (by refine ⟨?_,?_,?_,?_,trivial⟩<;>(first | rfl | exact c0 | exact c1 | exact cl | exact b2)) (by refine ⟨?_,?_,?_,?_,?_,?_,?_,?_,trivial⟩<;>(first | exact ah e0 | exact ah wY | exact ah vL | exact ah zB | exact ah wZ | exact ah ft | exact ah rfl | exact .of_eq (by rw [hn]) | exact .of_eq (by rw [hk]) | exact ah (decide_eq_true (by omega)) | exact ah (decide_eq_false (by omega)))) ⟨by rw [hq];rfl,rfl⟩
set_option maxHeartbeats 4000000 in
theorem aam (s:W) (hs:s.length≤1000000) (h0:s≠uJ) (a1:3≤s.length) (a2:s.getD 0 0=120) (a3:s.getD 1 0=39) (a4:s.getD (s.length-1) 0≠39):WK Tryz.prog 0 [.code Bv] (dz 144 [.d (.str s)] []).den (jZ s):=by
 have ok:=aH jM;have e0:=kT h0;have b2:decide (s.length≤1000000)=true:=decide_eq_true hs;have Nq:s.getD 0 0≠39:=by rw [a2];decide
 have c0:decide ((0:Int)≤0∧0 < (Nat.cast (R:=Int) s.length))=true:=decide_eq_true (by omega);have c1:decide ((0:Int)≤1∧1 < (Nat.cast (R:=Int) s.length))=true:=decide_eq_true (by omega);have wr:IntKind.i64.wrap ((Nat.cast (R:=Int) s.length)-1)=((s.length-1:Nat):Int):=by rw [bC _ (by omega)];omega
 have cl:decide ((0:Int)≤IntKind.i64.wrap ((Nat.cast (R:=Int) s.length)-1)∧IntKind.i64.wrap ((Nat.cast (R:=Int) s.length)-1) < (Nat.cast (R:=Int) s.length))=true:=by rw [wr];exact decide_eq_true (by omega)
 have wY:((Nat.cast (R:=Int) (s.getD 0 0).toNat)==120)=true:=xK (k:=120) (by omega) a2;have vL:((Nat.cast (R:=Int) (s.getD 0 0).toNat)==39)=false:=zA (k:=39) (by omega) Nq;have zB:((Nat.cast (R:=Int) (s.getD 1 0).toNat)==39)=true:=xK (k:=39) (by omega) a3;have wZ:((Nat.cast (R:=Int) (s.getD (IntKind.i64.wrap ((Nat.cast (R:=Int) s.length)-1)).toNat 0).toNat)==39)=false:=by rw [wr,Int.toNat_natCast];exact zA (k:=39) (by omega) a4
 cases hk:(iw s).2 with
 | true=>
   have ho:yY s=true:=(iL s).symm.trans hk;obtain ⟨n,hn⟩:∃n,(iw s).1=n:=⟨_,rfl⟩;have hq:vR s=(1,n,[],0):=by rw [jE,if_neg h0,if_neg (fun h=>a4 h.2.2.2.1),if_neg (fun h=>Nq h.2.1),if_pos ho,←mI s ho,hn]
   exact WK.fin ok 1000 0 [(13,aj false),(17,aj true),(21,aj true),(26,aj true),(34,aj false),(81,aj true),(85,aj false),(137,aA n),(138,aj true)] [decide ((0:Int)≤0∧(0:Int) < ((List.length s:Nat):Int)),decide ((0:Int)≤1∧(1:Int) < ((List.length s:Nat):Int)),decide (0≤IntKind.i64.wrap (((List.length s:Nat):Int)-1)∧IntKind.i64.wrap (((List.length s:Nat):Int)-1) < ((List.length s:Nat):Int)),decide ((0:Int)≤0∧(0:Int) < ((List.length s:Nat):Int)),decide (List.length s≤1000000)] [(aj (s==[(78:UInt8),(85:UInt8),(76:UInt8),(76:UInt8)]),aj false),(aj (decide (3≤((List.length s:Nat):Int))),aj true),(aj (((List.getD s 0 (0:UInt8)).toNat:Int)==120),aj true),(aj (((List.getD s 1 (0:UInt8)).toNat:Int)==39),aj true),(aj (((List.getD s (IntKind.i64.wrap (((List.length s:Nat):Int)-1)).toNat (0:UInt8)).toNat:Int)==39),aj false),(aj (decide (2≤((List.length s:Nat):Int))),aj true),(aj (((List.getD s 0 (0:UInt8)).toNat:Int)==39),aj false),(aA (Go.Proofs.YtjoefbioobdinaaGreatDoor.iw s).1,aA n),(aj (Go.Proofs.YtjoefbioobdinaaGreatDoor.iw s).2,aj true)] rfl (by kernel_rfl:au (bq sQ) true _ 1000 0 _ _ (dz 144 [.d (.str s)] [])=some (RV.aZ [RV.d (DV.agg [aU (1),aI n,DV.str []]),aA (0)],[],_,_)) (by refine ⟨?_,?_,?_,?_,?_,trivial⟩<;>(first | rfl | exact c0 | exact c1 | exact cl | exact b2)) (by refine ⟨?_,?_,?_,?_,?_,?_,?_,?_,?_,trivial⟩<;>(first | exact ah e0 | exact ah wY | exact ah vL | exact ah zB | exact ah wZ | exact ah ft | exact ah rfl | exact .of_eq (by rw [hn]) | exact .of_eq (by rw [hk]) | exact ah (decide_eq_true (by omega)) | exact ah (decide_eq_false (by omega)))) ⟨by rw [hq];rfl,rfl⟩
 | false=>
   have ho:yY s=false:=(iL s).symm.trans hk;obtain ⟨n,hn⟩:∃n,(iw s).1=n:=⟨_,rfl⟩;have hq:vR s=(0,0,[],6):=by rw [jE,if_neg h0,if_neg (fun h=>a4 h.2.2.2.1),if_neg (fun h=>Nq h.2.1),if_neg (by rw [ho];simp)]
   exact WK.fin ok 1000 0 [(13,aj false),(17,aj true),(21,aj true),(26,aj true),(34,aj false),(81,aj true),(85,aj false),(137,aA n),(138,aj false)] [decide ((0:Int)≤0∧(0:Int) < ((List.length s:Nat):Int)),decide ((0:Int)≤1∧(1:Int) < ((List.length s:Nat):Int)),decide (0≤IntKind.i64.wrap (((List.length s:Nat):Int)-1)∧IntKind.i64.wrap (((List.length s:Nat):Int)-1) < ((List.length s:Nat):Int)),decide ((0:Int)≤0∧(0:Int) < ((List.length s:Nat):Int)),decide (List.length s≤1000000)] [(aj (s==[(78:UInt8),(85:UInt8),(76:UInt8),(76:UInt8)]),aj false),(aj (decide (3≤((List.length s:Nat):Int))),aj true),(aj (((List.getD s 0 (0:UInt8)).toNat:Int)==120),aj true),(aj (((List.getD s 1 (0:UInt8)).toNat:Int)==39),aj true),(aj (((List.getD s (IntKind.i64.wrap (((List.length s:Nat):Int)-1)).toNat (0:UInt8)).toNat:Int)==39),aj false),(aj (decide (2≤((List.length s:Nat):Int))),aj true),(aj (((List.getD s 0 (0:UInt8)).toNat:Int)==39),aj false),(aA (Go.Proofs.YtjoefbioobdinaaGreatDoor.iw s).1,aA n),(aj (Go.Proofs.YtjoefbioobdinaaGreatDoor.iw s).2,aj false)] rfl (by kernel_rfl:au (bq sQ) true _ 1000 0 _ _ (dz 144 [.d (.str s)] [])=some (RV.aZ [RV.d (DV.agg [aU (0),aI (0),DV.str []]),aA (6)],[],_,_)) (by refine ⟨?_,?_,?_,?_,?_,trivial⟩<;>(first | rfl | exact c0 | exact c1 | exact cl | exact b2)) (by refine ⟨?_,?_,?_,?_,?_,?_,?_,?_,?_,trivial⟩<;>(first | exact ah e0 | exact ah wY | exact ah vL | exact ah zB | exact ah wZ | exact ah ft | exact ah rfl | exact .of_eq (by rw [hn]) | exact .of_eq (by rw [hk]) | exact ah (decide_eq_true (by omega)) | exact ah (decide_eq_false (by omega)))) ⟨by rw [hq];rfl,rfl⟩
set_option maxHeartbeats 4000000 in
theorem aan (s:W) (hs:s.length≤1000000) (h0:s≠uJ) (a1:3≤s.length) (a2:s.getD 0 0=120) (a3:s.getD 1 0=39) (a4:s.getD (s.length-1) 0=39) (a5:s.length % 2≠1):WK Tryz.prog 0 [.code Bv] (dz 144 [.d (.str s)] []).den (jZ s):=by
 have ok:=aH jM;have e0:=kT h0;have b2:decide (s.length≤1000000)=true:=decide_eq_true hs;have Nq:s.getD 0 0≠39:=by rw [a2];decide
 have c0:decide ((0:Int)≤0∧0 < (Nat.cast (R:=Int) s.length))=true:=decide_eq_true (by omega);have c1:decide ((0:Int)≤1∧1 < (Nat.cast (R:=Int) s.length))=true:=decide_eq_true (by omega);have wr:IntKind.i64.wrap ((Nat.cast (R:=Int) s.length)-1)=((s.length-1:Nat):Int):=by rw [bC _ (by omega)];omega
 have cl:decide ((0:Int)≤IntKind.i64.wrap ((Nat.cast (R:=Int) s.length)-1)∧IntKind.i64.wrap ((Nat.cast (R:=Int) s.length)-1) < (Nat.cast (R:=Int) s.length))=true:=by rw [wr];exact decide_eq_true (by omega)
 have wY:((Nat.cast (R:=Int) (s.getD 0 0).toNat)==120)=true:=xK (k:=120) (by omega) a2;have vL:((Nat.cast (R:=Int) (s.getD 0 0).toNat)==39)=false:=zA (k:=39) (by omega) Nq;have zB:((Nat.cast (R:=Int) (s.getD 1 0).toNat)==39)=true:=xK (k:=39) (by omega) a3;have wZ:((Nat.cast (R:=Int) (s.getD (IntKind.i64.wrap ((Nat.cast (R:=Int) s.length)-1)).toNat 0).toNat)==39)=true:=by rw [wr,Int.toNat_natCast];exact xK (k:=39) (by omega) a4
 have ft:((Nat.cast (R:=Int) s.length).tmod 2==1)=false:=by rw [show (Nat.cast (R:=Int) s.length).tmod 2=((s.length % 2:Nat):Int) from rfl];exact beq_false_of_ne (by omega)
 cases hk:(iw s).2 with
 | true=>
   have ho:yY s=true:=(iL s).symm.trans hk;obtain ⟨n,hn⟩:∃n,(iw s).1=n:=⟨_,rfl⟩;have hq:vR s=(1,n,[],0):=by rw [jE,if_neg h0,if_neg (fun h=>a5 h.2.2.2.2),if_neg (fun h=>Nq h.2.1),if_pos ho,←mI s ho,hn]
   exact WK.fin ok 1000 0 [(13,aj false),(17,aj true),(21,aj true),(26,aj true),(34,aj true),(40,aj false),(81,aj true),(85,aj false),(137,aA n),(138,aj true)] [decide ((0:Int)≤0∧(0:Int) < ((List.length s:Nat):Int)),decide ((0:Int)≤1∧(1:Int) < ((List.length s:Nat):Int)),decide (0≤IntKind.i64.wrap (((List.length s:Nat):Int)-1)∧IntKind.i64.wrap (((List.length s:Nat):Int)-1) < ((List.length s:Nat):Int)),true,decide ((0:Int)≤0∧(0:Int) < ((List.length s:Nat):Int)),decide (List.length s≤1000000)] [(aj (s==[(78:UInt8),(85:UInt8),(76:UInt8),(76:UInt8)]),aj false),(aj (decide (3≤((List.length s:Nat):Int))),aj true),(aj (((List.getD s 0 (0:UInt8)).toNat:Int)==120),aj true),(aj (((List.getD s 1 (0:UInt8)).toNat:Int)==39),aj true),(aj (((List.getD s (IntKind.i64.wrap (((List.length s:Nat):Int)-1)).toNat (0:UInt8)).toNat:Int)==39),aj true),(aj (((List.length s:Nat):Int).tmod (2)==1),aj false),(aj (decide (2≤((List.length s:Nat):Int))),aj true),(aj (((List.getD s 0 (0:UInt8)).toNat:Int)==39),aj false),(aA (Go.Proofs.YtjoefbioobdinaaGreatDoor.iw s).1,aA n),(aj (Go.Proofs.YtjoefbioobdinaaGreatDoor.iw s).2,aj true)] rfl (by kernel_rfl:au (bq sQ) true _ 1000 0 _ _ (dz 144 [.d (.str s)] [])=some (RV.aZ [RV.d (DV.agg [aU (1),aI n,DV.str []]),aA (0)],[],_,_)) (by refine ⟨?_,?_,?_,?_,?_,?_,trivial⟩<;>(first | rfl | exact c0 | exact c1 | exact cl | exact b2)) (by refine ⟨?_,?_,?_,?_,?_,?_,?_,?_,?_,?_,trivial⟩<;>(first | exact ah e0 | exact ah wY | exact ah vL | exact ah zB | exact ah wZ | exact ah ft | exact ah rfl | exact .of_eq (by rw [hn]) | exact .of_eq (by rw [hk]) | exact ah (decide_eq_true (by omega)) | exact ah (decide_eq_false (by omega)))) ⟨by rw [hq];rfl,rfl⟩
 | false=>
   have ho:yY s=false:=(iL s).symm.trans hk;obtain ⟨n,hn⟩:∃n,(iw s).1=n:=⟨_,rfl⟩;have hq:vR s=(0,0,[],6):=by rw [jE,if_neg h0,if_neg (fun h=>a5 h.2.2.2.2),if_neg (fun h=>Nq h.2.1),if_neg (by rw [ho];simp)]
   exact WK.fin ok 1000 0 [(13,aj false),(17,aj true),(21,aj true),(26,aj true),(34,aj true),(40,aj false),(81,aj true),(85,aj false),(137,aA n),(138,aj false)] [decide ((0:Int)≤0∧(0:Int) < ((List.length s:Nat):Int)),decide ((0:Int)≤1∧(1:Int) < ((List.length s:Nat):Int)),decide (0≤IntKind.i64.wrap (((List.length s:Nat):Int)-1)∧IntKind.i64.wrap (((List.length s:Nat):Int)-1) < ((List.length s:Nat):Int)),true,decide ((0:Int)≤0∧(0:Int) < ((List.length s:Nat):Int)),decide (List.length s≤1000000)] [(aj (s==[(78:UInt8),(85:UInt8),(76:UInt8),(76:UInt8)]),aj false),(aj (decide (3≤((List.length s:Nat):Int))),aj true),(aj (((List.getD s 0 (0:UInt8)).toNat:Int)==120),aj true),(aj (((List.getD s 1 (0:UInt8)).toNat:Int)==39),aj true),(aj (((List.getD s (IntKind.i64.wrap (((List.length s:Nat):Int)-1)).toNat (0:UInt8)).toNat:Int)==39),aj true),(aj (((List.length s:Nat):Int).tmod (2)==1),aj false),(aj (decide (2≤((List.length s:Nat):Int))),aj true),(aj (((List.getD s 0 (0:UInt8)).toNat:Int)==39),aj false),(aA (Go.Proofs.YtjoefbioobdinaaGreatDoor.iw s).1,aA n),(aj (Go.Proofs.YtjoefbioobdinaaGreatDoor.iw s).2,aj false)] rfl (by kernel_rfl:au (bq sQ) true _ 1000 0 _ _ (dz 144 [.d (.str s)] [])=some (RV.aZ [RV.d (DV.agg [aU (0),aI (0),DV.str []]),aA (6)],[],_,_)) (by refine ⟨?_,?_,?_,?_,?_,?_,trivial⟩<;>(first | rfl | exact c0 | exact c1 | exact cl | exact b2)) (by refine ⟨?_,?_,?_,?_,?_,?_,?_,?_,?_,?_,trivial⟩<;>(first | exact ah e0 | exact ah wY | exact ah vL | exact ah zB | exact ah wZ | exact ah ft | exact ah rfl | exact .of_eq (by rw [hn]) | exact .of_eq (by rw [hk]) | exact ah (decide_eq_true (by omega)) | exact ah (decide_eq_false (by omega)))) ⟨by rw [hq];rfl,rfl⟩
set_option maxHeartbeats 4000000 in
theorem vqX (s:W) (hs:s.length≤1000000) (h0:s≠uJ) (a1:3≤s.length) (a2:s.getD 0 0=120) (a3:s.getD 1 0=39) (a4:s.getD (s.length-1) 0=39) (a5:s.length % 2=1):WK Tryz.prog 0 [.code Bv] (dz 144 [.d (.str s)] []).den (jZ s):=by
 have ok:=aH jM;have e0:=kT h0;have b2:decide (s.length≤1000000)=true:=decide_eq_true hs;have c0:decide ((0:Int)≤0∧0 < (Nat.cast (R:=Int) s.length))=true:=decide_eq_true (by omega);have c1:decide ((0:Int)≤1∧1 < (Nat.cast (R:=Int) s.length))=true:=decide_eq_true (by omega);have wr:IntKind.i64.wrap ((Nat.cast (R:=Int) s.length)-1)=((s.length-1:Nat):Int):=by rw [bC _ (by omega)];omega
 have cl:decide ((0:Int)≤IntKind.i64.wrap ((Nat.cast (R:=Int) s.length)-1)∧IntKind.i64.wrap ((Nat.cast (R:=Int) s.length)-1) < (Nat.cast (R:=Int) s.length))=true:=by rw [wr];exact decide_eq_true (by omega)
 have wY:((Nat.cast (R:=Int) (s.getD 0 0).toNat)==120)=true:=xK (k:=120) (by omega) a2;have zB:((Nat.cast (R:=Int) (s.getD 1 0).toNat)==39)=true:=xK (k:=39) (by omega) a3;have wZ:((Nat.cast (R:=Int) (s.getD (IntKind.i64.wrap ((Nat.cast (R:=Int) s.length)-1)).toNat 0).toNat)==39)=true:=by rw [wr,Int.toNat_natCast];exact xK (k:=39) (by omega) a4
 have ft:((Nat.cast (R:=Int) s.length).tmod 2==1)=true:=by rw [show (Nat.cast (R:=Int) s.length).tmod 2=((s.length % 2:Nat):Int) from rfl];exact beq_iff_eq.2 (by omega)
 have hl:=Np s hs a1 a5 (by rw [jE,if_neg h0,if_pos ⟨a1,a2,a3,a4,a5⟩]);refine WK.cZ ok 1000 0 [(13,aj false),(17,aj true),(21,aj true),(26,aj true),(34,aj true),(40,aj true)] [(4,250,bT,1)] [0,2,4,5] [decide ((0:Int)≤0∧(0:Int) < ((List.length s:Nat):Int)),decide ((0:Int)≤1∧(1:Int) < ((List.length s:Nat):Int)),decide (0≤IntKind.i64.wrap (((List.length s:Nat):Int)-1)∧IntKind.i64.wrap (((List.length s:Nat):Int)-1) < ((List.length s:Nat):Int)),true] [(aj (s==[(78:UInt8),(85:UInt8),(76:UInt8),(76:UInt8)]),aj false),(aj (decide (3≤((List.length s:Nat):Int))),aj true),(aj (((List.getD s 0 (0:UInt8)).toNat:Int)==120),aj true),(aj (((List.getD s 1 (0:UInt8)).toNat:Int)==39),aj true),(aj (((List.getD s (IntKind.i64.wrap (((List.length s:Nat):Int)-1)).toNat (0:UInt8)).toNat:Int)==39),aj true),(aj (((List.length s:Nat):Int).tmod (2)==1),aj true)] rfl (by kernel_rfl:aJ (bq sQ) 1000 0 _ _ _ _ (dz 144 [.d (.str s)] [])=some (av Bv 0,Ru s (fq []) (2:Nat),_,_)) (by refine ⟨?_,?_,?_,?_,trivial⟩<;>(first | rfl | exact c0 | exact c1 | exact cl | exact b2)) (by refine ⟨?_,?_,?_,?_,?_,?_,trivial⟩<;>(first | exact ah e0 | exact ah wY | exact ah vL | exact ah zB | exact ah wZ | exact ah ft | exact ah rfl | exact .of_eq (by rw [hn]) | exact .of_eq (by rw [hk]) | exact ah (decide_eq_true (by omega)) | exact ah (decide_eq_false (by omega)))) ?_
 exact hl
set_option maxHeartbeats 4000000 in
theorem aao (s:W) (hs:s.length≤1000000) (h0:s≠uJ) (a1:¬3≤s.length) (b1:2≤s.length) (DU:s.getD 0 0=39) (b3:s.getD (s.length-1) 0=39):WK Tryz.prog 0 [.code Bv] (dz 144 [.d (.str s)] []).den (jZ s):=by
 have ok:=aH jM;have e0:=kT h0;have b2:decide (s.length≤1000000)=true:=decide_eq_true hs;have c0:decide ((0:Int)≤0∧0 < (Nat.cast (R:=Int) s.length))=true:=decide_eq_true (by omega);have wr:IntKind.i64.wrap ((Nat.cast (R:=Int) s.length)-1)=((s.length-1:Nat):Int):=by rw [bC _ (by omega)];omega
 have cl:decide ((0:Int)≤IntKind.i64.wrap ((Nat.cast (R:=Int) s.length)-1)∧IntKind.i64.wrap ((Nat.cast (R:=Int) s.length)-1) < (Nat.cast (R:=Int) s.length))=true:=by rw [wr];exact decide_eq_true (by omega)
 have vL:((Nat.cast (R:=Int) (s.getD 0 0).toNat)==39)=true:=xK (k:=39) (by omega) DU;have wZ:((Nat.cast (R:=Int) (s.getD (IntKind.i64.wrap ((Nat.cast (R:=Int) s.length)-1)).toNat 0).toNat)==39)=true:=by rw [wr,Int.toNat_natCast];exact xK (k:=39) (by omega) b3
 have hl:=Fh s hs b1 (by rw [jE,if_neg h0,if_neg (fun h=>a1 h.1),if_pos ⟨b1,DU,b3⟩]);refine WK.cZ ok 1000 0 [(13,aj false),(17,aj false),(81,aj true),(85,aj true),(93,aj true)] [(8,250,bT,1)] [0,2,8,9] [decide ((0:Int)≤0∧(0:Int) < ((List.length s:Nat):Int)),decide (0≤IntKind.i64.wrap (((List.length s:Nat):Int)-1)∧IntKind.i64.wrap (((List.length s:Nat):Int)-1) < ((List.length s:Nat):Int))] [(aj (s==[(78:UInt8),(85:UInt8),(76:UInt8),(76:UInt8)]),aj false),(aj (decide (3≤((List.length s:Nat):Int))),aj false),(aj (decide (2≤((List.length s:Nat):Int))),aj true),(aj (((List.getD s 0 (0:UInt8)).toNat:Int)==39),aj true),(aj (((List.getD s (IntKind.i64.wrap (((List.length s:Nat):Int)-1)).toNat (0:UInt8)).toNat:Int)==39),aj true)] rfl (by kernel_rfl:aJ (bq sQ) 1000 0 _ _ _ _ (dz 144 [.d (.str s)] [])=some (av Bv 1,Nl s (fq []) (1:Nat),_,_)) (by refine ⟨?_,?_,trivial⟩<;>(first | rfl | exact c0 | exact c1 | exact cl | exact b2)) (by refine ⟨?_,?_,?_,?_,?_,trivial⟩<;>(first | exact ah e0 | exact ah wY | exact ah vL | exact ah zB | exact ah wZ | exact ah ft | exact ah rfl | exact .of_eq (by rw [hn]) | exact .of_eq (by rw [hk]) | exact ah (decide_eq_true (by omega)) | exact ah (decide_eq_false (by omega)))) ?_
 exact hl
set_option maxHeartbeats 4000000 in
theorem aap (s:W) (hs:s.length≤1000000) (h0:s≠uJ) (a1:3≤s.length) (DU:s.getD 0 0=39) (b3:s.getD (s.length-1) 0=39):WK Tryz.prog 0 [.code Bv] (dz 144 [.d (.str s)] []).den (jZ s):=by
 have ok:=aH jM;have e0:=kT h0;have b2:decide (s.length≤1000000)=true:=decide_eq_true hs;have a2:s.getD 0 0≠120:=by rw [DU];decide
 have c0:decide ((0:Int)≤0∧0 < (Nat.cast (R:=Int) s.length))=true:=decide_eq_true (by omega);have wr:IntKind.i64.wrap ((Nat.cast (R:=Int) s.length)-1)=((s.length-1:Nat):Int):=by rw [bC _ (by omega)];omega
 have cl:decide ((0:Int)≤IntKind.i64.wrap ((Nat.cast (R:=Int) s.length)-1)∧IntKind.i64.wrap ((Nat.cast (R:=Int) s.length)-1) < (Nat.cast (R:=Int) s.length))=true:=by rw [wr];exact decide_eq_true (by omega)
 have wY:((Nat.cast (R:=Int) (s.getD 0 0).toNat)==120)=false:=zA (k:=120) (by omega) a2;have vL:((Nat.cast (R:=Int) (s.getD 0 0).toNat)==39)=true:=xK (k:=39) (by omega) DU;have wZ:((Nat.cast (R:=Int) (s.getD (IntKind.i64.wrap ((Nat.cast (R:=Int) s.length)-1)).toNat 0).toNat)==39)=true:=by rw [wr,Int.toNat_natCast];exact xK (k:=39) (by omega) b3
 have hl:=Fh s hs (by omega) (by rw [jE,if_neg h0,if_neg (fun h=>a2 h.2.1),if_pos ⟨by omega,DU,b3⟩]);refine WK.cZ ok 1000 0 [(13,aj false),(17,aj true),(21,aj false),(81,aj true),(85,aj true),(93,aj true)] [(8,250,bT,1)] [0,2,8,9] [decide ((0:Int)≤0∧(0:Int) < ((List.length s:Nat):Int)),decide ((0:Int)≤0∧(0:Int) < ((List.length s:Nat):Int)),decide (0≤IntKind.i64.wrap (((List.length s:Nat):Int)-1)∧IntKind.i64.wrap (((List.length s:Nat):Int)-1) < ((List.length s:Nat):Int))] [(aj (s==[(78:UInt8),(85:UInt8),(76:UInt8),(76:UInt8)]),aj false),(aj (decide (3≤((List.length s:Nat):Int))),aj true),(aj (((List.getD s 0 (0:UInt8)).toNat:Int)==120),aj false),(aj (decide (2≤((List.length s:Nat):Int))),aj true),(aj (((List.getD s 0 (0:UInt8)).toNat:Int)==39),aj true),(aj (((List.getD s (IntKind.i64.wrap (((List.length s:Nat):Int)-1)).toNat (0:UInt8)).toNat:Int)==39),aj true)] rfl (by kernel_rfl:aJ (bq sQ) 1000 0 _ _ _ _ (dz 144 [.d (.str s)] [])=some (av Bv 1,Nl s (fq []) (1:Nat),_,_)) (by refine ⟨?_,?_,?_,trivial⟩<;>(first | rfl | exact c0 | exact c1 | exact cl | exact b2)) (by refine ⟨?_,?_,?_,?_,?_,?_,trivial⟩<;>(first | exact ah e0 | exact ah wY | exact ah vL | exact ah zB | exact ah wZ | exact ah ft | exact ah rfl | exact .of_eq (by rw [hn]) | exact .of_eq (by rw [hk]) | exact ah (decide_eq_true (by omega)) | exact ah (decide_eq_false (by omega)))) ?_
 exact hl
theorem aaq (s:W) (hs:s.length≤1000000):Go.Am.C Tryz.prog 47 [.d (.str s)] [] (fun r o=>r=SY (vR s)∧o=[]):=by
 have ok:=aH jM;refine bn (fn:=Tryz.f47) (body:=Bv) true (by kernel_rfl) (by kernel_rfl) (by kernel_rfl) ?_;by_cases h0:s=uJ
 ·subst h0;have hq:vR uJ=(0,0,[],0):=by rw [jE,if_pos rfl]
  exact WK.fin ok 1000 0 [(13,aj true)] [] [(aj (uJ==[(78:UInt8),(85:UInt8),(76:UInt8),(76:UInt8)]),aj true)] rfl (by kernel_rfl:au (bq sQ) true _ 1000 0 _ _ (dz 144 [.d (.str uJ)] [])=some (RV.aZ [RV.d (DV.agg [aU (0),aI (0),DV.str []]),aA (0)],[],_,_)) trivial ⟨(by exact ah rfl),trivial⟩ ⟨by rw [hq];rfl,rfl⟩
 by_cases a1:3≤s.length
 ·by_cases a2:s.getD 0 0=120
  ·by_cases a3:s.getD 1 0=39
   ·by_cases a4:s.getD (s.length-1) 0=39
    ·by_cases a5:s.length % 2=1
     ·exact vqX s hs h0 a1 a2 a3 a4 a5
     ·exact aan s hs h0 a1 a2 a3 a4 a5
    ·exact aam s hs h0 a1 a2 a3 a4
   ·exact aal s hs h0 a1 a2 a3
  ·by_cases b2:s.getD 0 0=39
   ·by_cases b3:s.getD (s.length-1) 0=39
    ·exact aap s hs h0 a1 b2 b3
    ·exact XT s hs h0 a1 a2 b2 b3
   ·exact XR s hs h0 a1 a2 b2
 ·by_cases b1:2≤s.length
  ·by_cases b2:s.getD 0 0=39
   ·by_cases b3:s.getD (s.length-1) 0=39
    ·exact aao s hs h0 a1 b1 b2 b3
    ·exact XQ s hs h0 a1 b1 b2 b3
   ·exact XP s hs h0 a1 b1 b2
  ·exact XO s hs h0 b1
def vqE:DV→Option (RV×List Bool)
 | .str s=>some (SY (vR s),[decide (s.length≤1000000)])
 | _=>none
theorem TM:bY Tryz.prog 47 (wK vqE):=by
 refine kR fun x y c hg hc=>?_;unfold vqE at hg;split at hg
 ·rename_i s;simp only [Option.some.injEq,Prod.mk.injEq] at hg;obtain ⟨rfl,rfl⟩:=hg;exact aaq s (of_decide_eq_true (hc _ (by simp:decide (s.length≤1000000)∈[decide (s.length≤1000000)])))
 ·cases hg
end Go.Proofs.YtjoefbioobdinaaGreatDoor
namespace Go.Proofs.YtjoefbioobdinaaGreatDoor.Bd
open Go.RowKit Am
set_option maxRecDepth 100000
theorem uy:(Tryz.prog.info? 135).map (fun i=>decide (i.size≠0))=some true:=by kernel_rfl
theorem Du:liesAt Tryz.prog Tryz.prog.depth 135 (2 / Tryz.prog.cellsOf 135) 0 135 1=true:=by kernel_rfl
theorem Dv:Tryz.prog.cellsOf 5=1:=by kernel_rfl
set_option maxHeartbeats 1000000 in
theorem He (b:Nat) (w:World) (h0:w.cell? ⟨b,0,none⟩=some (.pointer (some ⟨b,0,none⟩))) :
 Calls Tryz.prog 144 #[.pointer (some ⟨b,0,none⟩)] w fun e w'=>e = .returned (.tuple #[])∧w'=w:=by
 obtain ⟨j,hj,_⟩:=Option.map_eq_some_iff.1 uy
 go_enter Tryz.func144,Tryz.ntmps144
 go_wp2
 rw [Lib.run_neq_ptr_same w _ Tryz.underlying133 hj]
 go_wp2
 go_end0
 exact ⟨rfl,rfl⟩
set_option maxHeartbeats 1000000 in
theorem Dw (b:Nat) (w:World) (h0:w.cell? ⟨b,0,none⟩=some (.pointer none)) (hsh:w.shape? b=some (135,2)) (hfz:w.frozen? ⟨b,0,none⟩=false) :
 Calls Tryz.prog 144 #[.pointer (some ⟨b,0,none⟩)] w fun e w'=>e = .returned (.tuple #[])∧w'=w.setCell ⟨b,0,none⟩ (.pointer (some ⟨b,0,none⟩)):=by
 obtain ⟨j,hj,hjs⟩:=Option.map_eq_some_iff.1 uy
 go_enter Tryz.func144,Tryz.ntmps144
 go_wp2
 rw [Lib.run_to_unsafe w ⟨b,0,none⟩ Tryz.underlying133 Tryz.underlying302 hj (by simpa using hjs) hsh (Nat.zero_lt_succ 1)];simp only [Result.andThen];rw [Oper.upon_value]
 go_wp2
 rw [run_callFunc_extern Tryz.func204 (by kernel_rfl) (by kernel_rfl) (by kernel_rfl) (e:=Extern.AbiNoEscape.same) (by kernel_rfl)];rw [Lib.run_noEscape];simp only [Result.andThen];rw [Oper.upon_value]
 go_wp2
 rw [Lib.run_from_unsafe w ⟨b,0,none⟩ Tryz.underlying302 Tryz.underlying133 hj hsh Du];simp only [Result.andThen];rw [Oper.upon_value]
 go_wp2
 go_end0
 exact ⟨rfl,rfl⟩
set_option maxHeartbeats 2000000 in
theorem Dx (b g cap n0:Nat) (l:List UInt8) (p:Value) (w:World) (Q:World→Prop) (fz:Nat×Nat) (cur:Array Value) (hne:l≠[]) (hcap:l.length≤cap) (h63:l.length≤9223372036854775807)
 (hb:w.heap[b]? = some (.cells #[p,.slice (some ⟨g,0,none⟩) l.length cap] 135 (0,0))) (hg:w.heap[g]? = some (.cells cur 5 fz)) (hsz:cur.size=n0) (hn0:l.length≤n0)
 (hcell:∀(j:Nat) (y:UInt8),l[j]? = some y→w.cell? ((⟨g,0,none⟩:Addr).add j)=some (.int .u8 y.toNat)) (hQ:Q (w.drew.freeze ⟨g,0,none⟩ l.length)) :
 Calls Tryz.prog 90 #[.pointer (some ⟨b,0,none⟩)] w fun e w'=>e = .returned (.string ⟨l.toArray⟩)∧Q w':=by
 have hpos:0 < l.length:=List.length_pos_iff.2 hne
 have c1:w.drew.cell? ⟨b,1,none⟩=some (.slice (some ⟨g,0,none⟩) l.length cap):=by
  have:w.drew.heap[b]? = some (.cells #[p,.slice (some ⟨g,0,none⟩) l.length cap] 135 (0,0)):=hb
  rw [Lib.cell_of_heap this];rfl
 have hSD:(Builtin.unsafeSliceData_ #[130] 212 #[.slice (some ⟨g,0,none⟩) l.length cap]).run Tryz.prog w.drew = .ok (.pointer (some ⟨g,0,none⟩)) w.drew:=
  Lib.run_unsafeSliceData_row _ _ _ _ _ _ (by omega)
 have hUS:(Builtin.unsafeString_ #[212,3] 9 #[.pointer (some ⟨g,0,none⟩),.int .i64 l.length]).run Tryz.prog w.drew = .ok (.string ⟨l.toArray⟩) (w.drew.freeze ⟨g,0,none⟩ l.length):=
  Lib.run_unsafeString_row w.drew _ _ _ 5 Tryz.underlying212 Dv g cur.size (by have hg' : w.drew.heap[g]? = some (.cells cur 5 fz):=hg;simp [World.shape?,hg']) l hne (by omega) h63 hcell
 have HQ:=Lib.hid hQ;clear hQ hcell hg hb hsz hn0 hcap h63 hne hpos
 go_enter Tryz.func90,Tryz.ntmps90
 go_wp2
 go_region
 all_goals (go_wp2;go_ret;exact ⟨rfl,HQ.out⟩)
set_option maxHeartbeats 2000000 in
theorem Dy (b:Nat) (p:Value) (w:World) (Q:World→Prop) (hb:w.heap[b]? = some (.cells #[p,.slice none 0 0] 135 (0,0))) (hQ:Q w.drew) :
 Calls Tryz.prog 90 #[.pointer (some ⟨b,0,none⟩)] w fun e w'=>e = .returned (.string ⟨#[]⟩)∧Q w':=by
 have hUS:∀W:World,(Builtin.unsafeString_ #[212,3] 9 #[.pointer none,.int .i64 0]).run Tryz.prog W = .ok (.string .empty) W:=fun W=>Lib.run_unsafeString_none W _ _ _ none
 have c1:w.drew.cell? ⟨b,1,none⟩=some (.slice none 0 0):=by
  have:w.drew.heap[b]? = some (.cells #[p,.slice none 0 0] 135 (0,0)):=hb
  rw [Lib.cell_of_heap this];rfl
 have hSD:(Builtin.unsafeSliceData_ #[130] 212 #[.slice none 0 0]).run Tryz.prog w.drew = .ok (.pointer none) w.drew:=rfl;have HQ:=Lib.hid hQ;clear hb hQ
 go_enter Tryz.func90,Tryz.ntmps90
 go_wp2
 go_region
 all_goals (go_wp2;go_ret;exact ⟨rfl,HQ.out⟩)
theorem jF {c:Array Value} (h:c.size=2):∃x y,c = #[x,y]:=by
 refine ⟨c[0],c[1],?_⟩;apply Array.ext
 ·simpa using h
 ·intro i h1 h2
  have:i=0∨i=1:=by simp at h2;omega
  rcases this with rfl | rfl<;>rfl
theorem zi (p q:ay) (r:List ay):bA (aR (p::r)) 0 (some q)=aR (q::r):=by
 funext i;cases i with
 | zero=>simp [bA,aR]
 | succ i=>simp [bA,aR]
theorem zk (p q q' : ay) (r:List ay):bA (aR (p::q::r)) 1 (some q')=aR (p::q'::r):=by
 funext i
 match i with
 | 0=>simp [bA,aR]
 | 1=>simp [bA,aR]
 | i+2=>simp [bA,aR]
theorem Hf (x y:RV) (r:List ay) (hx:x = .d .aG∨x = .ptr 0 0):C Tryz.prog 144 [.ptr 0 0] (.box 135 [x,y]::r) (fun v o=>v = .d (.aZ [])∧o = .box 135 [.ptr 0 0,y]::r):=by
 intro κ φ w vs h1 h2 h3 h4;have hs:vs.size=1:=by simpa using h3
 have e1:vs[0]? = some vs[0]:=by simp [show 0 < vs.size by omega]
 have r0:=h4 0 _ _ rfl e1
 have hvs:vs = #[vs[0]]:=by
  apply Array.ext
  ·simpa using hs
  ·intro i hi hi2;simp at hi2;subst hi2;rfl
 rw [hvs];generalize vs[0]=v0 at r0;clear e1 hvs;cases r0 with
 | ptr hφ=>
 rename_i b;have ho:=h1 0;have et:aR (ay.box 135 [x,y]::r) 0=some (.box 135 [x,y]):=rfl;rw [et] at ho;obtain ⟨b',c,g1,g2,g3,g4,g5,g6⟩:=ho;rw [g1] at hφ;injection hφ with hφ;subst hφ;obtain ⟨c0,c1,rfl⟩:=jF (by simpa using g4);have q0:=g6 0 x c0 rfl rfl;have q1:=g6 1 y c1 rfl rfl;have F:=kD h1 h2;rcases hx with rfl | rfl
 ·cases q0 with
  | d hr=>
  cases hr;refine (Dw b' w (by rw [Lib.cell_of_heap g3];rfl) (by simp [World.shape?,g3]) (Lib.frozen_of_heap g3 0)).mono ?_
  rintro e w' ⟨rfl,rfl⟩
  rw [mg g3]
  obtain ⟨p1,p2,p3⟩:=F.write (i:=0) (p:=.box 135 [.ptr 0 0,y]) (o:=.cells #[.pointer (some ⟨b',0,none⟩),c1] 135 (0,0)) g2 g1
   (fun c ty fz hh=>by rw [g3] at hh;injection hh with hh;injection hh with a1 a2 a3;subst a1;subst a2;exact ⟨_,_,rfl,rfl⟩) (fun n hn=>by simp [ay.dn] at hn)
   (fun M=>⟨b',_,g1,g2,dO g3,rfl,fun v hv=>by
     simp at hv;rcases hv with rfl | rfl
     ·rfl
     ·exact g5 _ (by simp),fun j x v hx hv=>by
     match j,hx,hv with
     | 0,hx,hv=>simp at hx hv;subst hx;subst hv;exact .ptr g1
     | 1,hx,hv=>simp at hx hv;subst hx;subst hv;exact q1.mono M
     | j+2,hx,hv=>simp at hx⟩)
  have Ke:bA (aR (ay.box 135 [.d .aG,y]::r)) 0 (some (.box 135 [.ptr 0 0,y]))=aR (.box 135 [.ptr 0 0,y]::r):=zi _ _ _;simp only [Ke] at p1 p2;exact ⟨_,_,_,κ,φ,rfl,⟨rfl,rfl⟩,.d (.aZ rfl (by simp)),p1.objs,p1.bnd,by simp,p3,p2.kp⟩
 ·cases q0 with
  | ptr hp=>
  rename_i b2
  have:b2=b':=by rw [g1] at hp;injection hp with hp;exact hp.symm
  subst this;refine (He b2 w (by rw [Lib.cell_of_heap g3];rfl)).mono ?_
  rintro e w' ⟨rfl,rfl⟩
  exact ⟨_,_,_,κ,φ,rfl,⟨rfl,rfl⟩,.d (.aZ rfl (by simp)),h1,h2,by simp,Fr.refl _ _,Kp.refl _ _⟩
def FI:DV→Bool
 | .int .u8 n=>decide (0≤n∧n < 256)
 | _=>false
theorem pR {x:DV} (h:FI x=true):x = .int .u8 (x.byte.toNat:Int):=by
 unfold FI at h;split at h
 ·rename_i n;simp only [decide_eq_true_eq] at h;simp only [DV.byte,DV.int.injEq,true_and]
  have:n.toNat < 256:=by omega
  rw [UInt8.toNat_ofNat_of_lt' (by simpa using this)];omega
 ·cases h
theorem Fp {x:DV} (h:FI x=true):x.cells=[x]:=by rw [pR h];rfl
theorem Nr (p:RV) (els:List DV) (r:List ay) (hb:els.all FI=true) (hne:els≠[]) (hbig:els.length≤1099511627776):C Tryz.prog 90 [.ptr 0 0] (.box 135 [p,.own 1 1] :: .arr 5 1 els::r)
 (fun v o=>v = .d (.str (els.map DV.byte))∧o = .box 135 [p,.own 1 1] :: .gone::r):=by
 intro κ φ w vs h1 h2 h3 h4;have hs:vs.size=1:=by simpa using h3
 have e1:vs[0]? = some vs[0]:=by simp [show 0 < vs.size by omega]
 have r0:=h4 0 _ _ rfl e1
 have hvs:vs = #[vs[0]]:=by
  apply Array.ext
  ·simpa using hs
  ·intro i hi hi2;simp at hi2;subst hi2;rfl
 rw [hvs];generalize vs[0]=v0 at r0;clear e1 hvs;cases r0 with
 | ptr hφ=>
 rename_i b;have ho:=h1 0;have et:aR (ay.box 135 [p,.own 1 1] :: .arr 5 1 els::r) 0=some (.box 135 [p,.own 1 1]):=rfl;rw [et] at ho;obtain ⟨b',c,g1,g2,g3,g4,g5,g6⟩:=ho;rw [g1] at hφ;injection hφ with hφ;subst hφ;obtain ⟨c0,c1,rfl⟩:=jF (by simpa using g4);have q1:=g6 1 (.own 1 1) c1 rfl rfl;have ho1:=h1 1;have Zp:aR (ay.box 135 [p,.own 1 1] :: .arr 5 1 els::r) 1=some (.arr 5 1 els):=rfl;rw [Zp] at ho1;rcases ho1 with ⟨_,k⟩ | ⟨g,cur,fz,k1,k2,k3,k4,k5⟩
 ·exact absurd k hne
 ·cases q1 with
  | gJ hp=>rw [k1] at hp;cases hp
  | own hp hb0 hcap hlc hlen=>
    rename_i g' len cap c' ty' uH
    have:g'=g:=by rw [k1] at hp;injection hp with hp;exact hp.symm
    subst this;have hl:=hlen els.length (by rw [Zp];rfl);subst hl;rw [k3] at hb0;injection hb0 with hb0;injection hb0 with a1 a2 a3;subst a1;subst a2;subst a3;have hlm:(els.map DV.byte).length=els.length:=by simp
    have F:=kD h1 h2;obtain ⟨k51,k52,k53⟩:=k5
    have hcells:∀(j:Nat) (y:UInt8),(els.map DV.byte)[j]? = some y→w.cell? ((⟨g',0,none⟩:Addr).add j)=some (.int .u8 y.toNat):=by
     intro j y hy;have hj:j < els.length:=by simpa using (List.getElem?_eq_some_iff.1 hy).1
     have hx:els[j]? = some els[j]:=by simp [hj]
     have hB:=List.all_eq_true.1 hb els[j] (by simp);have hcj:cur[j]? = some cur[j]:=by simp [show j < cur.size by omega]
     have hd:=k53 j _ 0 els[j] cur[j] hx (by rw [Fp hB];rfl) (by simp [hcj]);rw [pR hB] at hd;rw [gU,Am.qc k3,Nat.zero_add,hcj];have WQ:y=els[j].byte:=by simp [hj] at hy;exact hy.symm
     subst WQ;generalize cur[j]=cv at hd;cases hd;rfl
    have hw' : ∀(k:Nat),k≠g'→(w.drew.freeze ⟨g',0,none⟩ els.length).heap[k]? = w.heap[k]?:=by
     intro k hk;unfold World.freeze;split
     ·rfl
     ·simp only [Array.getElem?_modify];rw [if_neg (fun e=>hk e.symm)];rfl
    have hwg:∃Q0,(w.drew.freeze ⟨g',0,none⟩ els.length).heap[g']? = some (.cells cur 5 Q0):=by
     have XU : w.drew.heap[g']? = some (.cells cur 5 fz):=k3;unfold World.freeze;split
     ·exact ⟨_,XU⟩
     ·simp only [Array.getElem?_modify,XU];simp
    have hsz:(w.drew.freeze ⟨g',0,none⟩ els.length).heap.size=w.heap.size:=by unfold World.freeze;split<;>simp
    have hos:(w.drew.freeze ⟨g',0,none⟩ els.length).os=w.os∧(w.drew.freeze ⟨g',0,none⟩ els.length).output=w.output:=by unfold World.freeze;split<;>exact ⟨rfl,rfl⟩
    refine (Dx b' g' cap cur.size (els.map DV.byte) c0 w (fun w'=>w'=w.drew.freeze ⟨g',0,none⟩ els.length) fz cur (by simpa using hne) (by rw [hlm];exact hlc) (by rw [hlm];omega) (by rw [hlm];exact g3) k3 rfl (by rw [hlm];omega) hcells (by rw [hlm])).mono ?_
    rintro e w' ⟨rfl,rfl⟩
    obtain ⟨Q0,hwg⟩:=hwg
    obtain ⟨p1,p2,p3⟩:=F.wS (i:=1) (p:=.gone) (κ':=κ) (φ':=φ) (w':=w.drew.freeze ⟨g',0,none⟩ els.length) (by omega) (fun _ h=>h) (fun _ _ _ _ h=>h) (fun _ _ h=>h)
     (fun k _ hk _=>hw' k (fun e=>by subst e;exact hk k2)) (fun _ _=>rfl) (fun _=>rfl)
     (fun k c ty fz hk=>by
       by_cases e:k=g'
       ·subst e;rw [k3] at hk;injection hk with hk;injection hk with a1 a2 a3;subst a1;subst a2;exact ⟨_,_,hwg,rfl⟩
       ·exact ⟨c,fz,by rw [hw' k e];exact hk,rfl⟩) (fun _ n hn=>by simp [ay.dn] at hn) (fun k hk=>by rw [hsz];exact h2.lt k hk) (fun _=>trivial) hos
    have Ke:bA (aR (ay.box 135 [p,.own 1 1] :: .arr 5 1 els::r)) 1 (some .gone)=aR (.box 135 [p,.own 1 1] :: .gone::r):=zk _ _ _ _;simp only [Ke] at p1 p2;exact ⟨_,_,_,κ,φ,rfl,⟨rfl,rfl⟩,.d (.str _),p1.objs,p1.bnd,by simp,p3,p2.kp⟩
theorem Hg (p:RV) (r:List ay):C Tryz.prog 90 [.ptr 0 0] (.box 135 [p,.d (.aF 0 [] true)]::r)
 (fun v o=>v = .d (.str [])∧o = .box 135 [p,.d (.aF 0 [] true)]::r):=by
 intro κ φ w vs h1 h2 h3 h4;have hs:vs.size=1:=by simpa using h3
 have e1:vs[0]? = some vs[0]:=by simp [show 0 < vs.size by omega]
 have r0:=h4 0 _ _ rfl e1
 have hvs:vs = #[vs[0]]:=by
  apply Array.ext
  ·simpa using hs
  ·intro i hi hi2;simp at hi2;subst hi2;rfl
 rw [hvs];generalize vs[0]=v0 at r0;clear e1 hvs;cases r0 with
 | ptr hφ=>
 rename_i b;have ho:=h1 0;have et:aR (ay.box 135 [p,.d (.aF 0 [] true)]::r) 0=some (.box 135 [p,.d (.aF 0 [] true)]):=rfl;rw [et] at ho;obtain ⟨b',c,g1,g2,g3,g4,g5,g6⟩:=ho;rw [g1] at hφ;injection hφ with hφ;subst hφ;obtain ⟨c0,c1,rfl⟩:=jF (by simpa using g4);have q1:=g6 1 (.d (.aF 0 [] true)) c1 rfl rfl;cases q1 with
 | d hr=>
 have hc1:c1 = .slice none 0 0:=by
  cases hr with
  | iX hf=>have:=hf rfl;rw [this.1,this.2 rfl]
  | aF _ _ hf _ _ _ _=>have:=(hf rfl).2;omega
 subst hc1;have F:=kD h1 h2;refine (Dy b' c0 w (fun w'=>w'=w.drew) g3 rfl).mono ?_
 rintro e w' ⟨rfl,rfl⟩
 exact ⟨_,_,_,κ,φ,rfl,⟨rfl,rfl⟩,.d (.str _),h1,⟨h2.lt,h2.gl⟩,by simp,⟨Nat.le_refl _,fun _ hb=>⟨hb,rfl⟩,fun _ _ hb=>⟨hb,rfl⟩,fun _ c _ fz hc=>⟨c,fz,hc,rfl⟩,rfl,rfl⟩,Kp.refl _ _⟩
def oG:RV→Bool
 | .d .aG=>true
 | .ptr 0 0=>true
 | _=>false
def zl:kZ:=fun a o=>match a,o with
 | [.ptr 0 0],.box T [x,y]::r=>bif Nat.beq T 135&&oG x then some (.d (.aZ []),.box T [.ptr 0 0,y]::r,[]) else none
 | _,_=>none
theorem zm:bY Tryz.prog 144 zl:=by
 intro a o r o' c hg _;unfold zl at hg;split at hg
 ·rename_i T x y rr;cases hb:(Nat.beq T 135&&oG x) with
  | false=>rw [hb] at hg;simp at hg
  | true=>
    rw [hb] at hg;simp only [cond_true,Option.some.injEq,Prod.mk.injEq] at hg;obtain ⟨rfl,rfl,rfl⟩:=hg;simp only [Bool.and_eq_true] at hb
    have:=bV hb.1;subst this
    refine Hf x y rr ?_
    have:=hb.2
    unfold oG at this;split at this
    ·exact .inl rfl
    ·exact .inr rfl
    ·cases this
 ·cases hg
def Hl:kZ:=fun a o=>match a,o with
 | [.ptr 0 0],.box T [p,.own 1 1] :: .arr E 1 els::r=>bif Nat.beq T 135&&Nat.beq E 5 then some (.d (.str (els.map DV.byte)),.box T [p,.own 1 1] :: .gone::r,[els.all FI,!els.isEmpty,decide (els.length≤1099511627776)]) else none
 | [.ptr 0 0],.box T [p,.d (.aF 0 [] true)]::r=>bif Nat.beq T 135 then some (.d (.str []),.box T [p,.d (.aF 0 [] true)]::r,[]) else none
 | _,_=>none
theorem Dz:bY Tryz.prog 90 Hl:=by
 intro a o r o' c hg hc;unfold Hl at hg;split at hg
 ·rename_i T p E els rr;cases hb:(Nat.beq T 135&&Nat.beq E 5) with
  | false=>rw [hb] at hg;simp at hg
  | true=>
    rw [hb] at hg;simp only [cond_true,Option.some.injEq,Prod.mk.injEq] at hg;obtain ⟨rfl,rfl,rfl⟩:=hg;simp only [Bool.and_eq_true] at hb
    have:=bV hb.1;subst this
    have:=bV hb.2;subst this
    have h0:=hc _ (by simp:els.all FI∈[els.all FI,!els.isEmpty,decide (els.length≤1099511627776)]);have h1:=hc _ (by simp:(!els.isEmpty)∈[els.all FI,!els.isEmpty,decide (els.length≤1099511627776)]);have h2:=hc _ (by simp:decide (els.length≤1099511627776)∈[els.all FI,!els.isEmpty,decide (els.length≤1099511627776)]);exact Nr p els rr h0 (by rintro rfl;simp at h1) (by simpa using h2)
 ·rename_i T p rr;cases hb:Nat.beq T 135 with
  | false=>rw [hb] at hg;simp at hg
  | true=>
    rw [hb] at hg;simp only [cond_true,Option.some.injEq,Prod.mk.injEq] at hg;obtain ⟨rfl,rfl,rfl⟩:=hg
    have:=bV hb;subst this
    exact Hg p rr
 ·cases hg
end Go.Proofs.YtjoefbioobdinaaGreatDoor.Bd
namespace Go.Proofs.YtjoefbioobdinaaGreatDoor
open Go.RowKit Am
open Go.aQ hiding cut intOf take split
set_option maxRecDepth 100000
set_option linter.unusedVariables false
set_option linter.unusedSimpArgs false
noncomputable abbrev KF:Code:=eG Tryz.f25
noncomputable abbrev TN:Code:=eG Tryz.f23
noncomputable abbrev Rv:Code:=eG Tryz.f26
noncomputable abbrev Jj:Code:=eG Tryz.f49
noncomputable def Ho:List (Nat×kZ):=[(47,wK vqE)]
noncomputable def Qj:List (Nat×kZ):=[(144,Bd.zl),(90,Bd.Hl)]
abbrev BT:Nat:=135
def DC (d:W) (b:Bool) (i:Int):iU:={ n:=63,m:=0,regs:=T.mk [(6,.d (.str d)),(7,.d (.bool b)),(8,.d (.int .i64 i))],objs:=T.mk [] }
def OJ (s:W) (l:List DV) (i:Int):iU:={ n:=37,m:=0,regs:=T.mk [(0,.d (.str s)),(3,.own 200 1),(4,.d (.int .i64 i))],objs:=T.mk [(200,.arr sT 1 l)] }
def Ns (ks:DV) (o:W) (i:Int):iU:={ n:=20,m:=0,regs:=T.mk [(0,.d ks),(3,.d (.str o)),(4,.d (.int .i64 i))],objs:=T.mk [] }
def Fq (ks:DV) (n i:Int) (x:RV):iU:={ n:=17,m:=0,regs:=T.mk [(3,.ptr 200 0),(6,.d ks),(7,.d (.int .i64 n)),(8,.d (.int .i64 i))],objs:=T.mk [(200,.box BT [x,.d (.aF 0 [] true)])] }
def FJ (ks:DV) (o:List DV) (n i:Int) (x:RV):iU:={ n:=17,m:=0,regs:=T.mk [(3,.ptr 200 0),(6,.d ks),(7,.d (.int .i64 n)),(8,.d (.int .i64 i))],objs:=T.mk [(200,.box BT [x,.own 201 1]),(201,.arr bT 1 o)] }
theorem Nt:eZ Tryz.prog Ho:=.cons TM .nil
theorem zn:eZ Tryz.prog Qj:=.cons Bd.zm (.cons Bd.Dz .nil)
theorem Nu {s:W} (h:aQ.intOf s=none) (h2:¬(aQ.trimmed s=[]∨(aQ.trimmed s).head? = some 48∨¬(aQ.trimmed s).all aQ.fK=true)):uK s=0∧iV s=1:=by
 have e:gN s = .range:=by unfold gN;rw [h];exact if_neg h2
 unfold uK iV;rw [e];exact ⟨rfl,rfl⟩
theorem Jk {s:W} (h:aQ.intOf s=none) (h2:aQ.trimmed s=[]∨(aQ.trimmed s).head? = some 48∨¬(aQ.trimmed s).all aQ.fK=true):uK s=0∧iV s=0:=by
 have e:gN s = .none:=by unfold gN;rw [h];exact if_pos h2
 unfold uK iV;rw [e];exact ⟨rfl,rfl⟩
theorem XV {s:W} {n:Int} (h:aQ.intOf s=some n):uK s=n∧iV s=2:=by
 unfold uK iV gN;rw [h];exact ⟨rfl,rfl⟩
abbrev TP (s:W):bQ→Prop:=rR (Tryz.f25.results.toList) 0 (fun r o=>r = .aZ [.d (.int .i64 (uK s)),.d (.int .i64 (iV s))]∧o=[])
set_option maxHeartbeats 400000 in
theorem DF (s d:W) (hd:aQ.trimmed s=d) (hl:d.length≤1000000) (hi:aQ.intOf s=none):WK Tryz.prog 0 (av KF 0) (DC d (!d.isEmpty) (0:Nat)).den (TP s):=by
 have ok:=aH Nt;refine WK.rec' (fun p:Bool×Nat=>DC d p.1 (p.2:Int)) (fun p=>p.2≤d.length∧(p.1=true↔d≠[]∧(d.take p.2).all aQ.fK=true)) (fun p=>d.length-p.2) ?_ (!d.isEmpty,0) ⟨by simp,by simp⟩
 rintro ⟨b,i⟩ ⟨h1,h2⟩ ih
 simp only at h1 h2;by_cases he:i < d.length
 ·obtain ⟨c,hc⟩:∃c,d[i]? = some c:=⟨_,List.getElem?_eq_getElem he⟩;have v1:=lg hc;have c1:=uq he;have vs:=dB (i:=i) (by omega);have hlt:=UInt8.toNat_lt c;have et:(d.take (i+1))=d.take i++[c]:=by rw [List.take_add_one,hc];rfl
  cases b with
  | false=>
    have hn:=ih (false,i+1) ⟨by simp only;omega,by
     simp only [Bool.false_eq_true,false_iff] at h2 ⊢;rw [et,List.all_append];intro ⟨g1,g2⟩;rw [Bool.and_eq_true] at g2;exact h2 ⟨g1,g2.1⟩⟩ (by simp only;omega)
    simp only at hn;refine WK.cZ ok 1000 0 [(40,aj true),(42,aA ((i+1:Nat):Int))] [] [6,7,8] [] [(aj (decide ((i:Int) < ((List.length d:Nat):Int))),aj true),(aA (IntKind.i64.wrap ((i:Int)+1)),aA ((i+1:Nat):Int))] rfl (by kernel_rfl:aJ (bq Ho) 1000 0 _ _ _ _ (DC d false (i:Int))=some (av KF 0,DC d false ((i+1:Nat):Int),_,_)) trivial (by refine ⟨?_,?_,trivial⟩<;>(first | exact ah rfl | exact v1 | exact vs | exact ah (decide_eq_true (by omega)) | exact ah (decide_eq_false (by omega)))) ?_
    exact hn
  | true=>
    have h3:=h2.1 rfl;by_cases g1:48≤c.toNat
    ·by_cases g2:c.toNat≤57
     ·have hn:=ih (true,i+1) ⟨by simp only;omega,by
       simp only [true_iff];refine ⟨h3.1,?_⟩;rw [et,List.all_append,h3.2];simp [aQ.fK,g1,g2]⟩ (by simp only;omega)
      simp only at hn;refine WK.cZ ok 1000 0 [(40,aj true),(47,bK (c.toNat:Int)),(48,aj true),(53,bK (c.toNat:Int)),(54,aj true),(42,aA ((i+1:Nat):Int))] [] [6,7,8] [decide (0≤(i:Int)∧(i:Int) < ((List.length d:Nat):Int)),decide (0≤(i:Int)∧(i:Int) < ((List.length d:Nat):Int))] [(aj (decide ((i:Int) < ((List.length d:Nat):Int))),aj true),(bK ((List.getD d (i:Int).toNat (0:UInt8)).toNat:Int),bK (c.toNat:Int)),(aj (decide (48≤(c.toNat:Int))),aj true),(bK ((List.getD d (i:Int).toNat (0:UInt8)).toNat:Int),bK (c.toNat:Int)),(aj (decide ((c.toNat:Int)≤57)),aj true),(aA (IntKind.i64.wrap ((i:Int)+1)),aA ((i+1:Nat):Int))] rfl (by kernel_rfl:aJ (bq Ho) 1000 0 _ _ _ _ (DC d true (i:Int))=some (av KF 0,DC d true ((i+1:Nat):Int),_,_)) (by refine ⟨?_,?_,trivial⟩<;>(first | rfl | exact c1)) (by refine ⟨?_,?_,?_,?_,?_,?_,trivial⟩<;>(first | exact ah rfl | exact v1 | exact vs | exact ah (decide_eq_true (by omega)) | exact ah (decide_eq_false (by omega)))) ?_
      exact hn
     ·have hn:=ih (false,i+1) ⟨by simp only;omega,by
       simp only [Bool.false_eq_true,false_iff];rw [et,List.all_append];simp [aQ.fK,g2]⟩ (by simp only;omega)
      simp only at hn;refine WK.cZ ok 1000 0 [(40,aj true),(47,bK (c.toNat:Int)),(48,aj true),(53,bK (c.toNat:Int)),(54,aj false),(42,aA ((i+1:Nat):Int))] [] [6,7,8] [decide (0≤(i:Int)∧(i:Int) < ((List.length d:Nat):Int)),decide (0≤(i:Int)∧(i:Int) < ((List.length d:Nat):Int))] [(aj (decide ((i:Int) < ((List.length d:Nat):Int))),aj true),(bK ((List.getD d (i:Int).toNat (0:UInt8)).toNat:Int),bK (c.toNat:Int)),(aj (decide (48≤(c.toNat:Int))),aj true),(bK ((List.getD d (i:Int).toNat (0:UInt8)).toNat:Int),bK (c.toNat:Int)),(aj (decide ((c.toNat:Int)≤57)),aj false),(aA (IntKind.i64.wrap ((i:Int)+1)),aA ((i+1:Nat):Int))] rfl (by kernel_rfl:aJ (bq Ho) 1000 0 _ _ _ _ (DC d true (i:Int))=some (av KF 0,DC d false ((i+1:Nat):Int),_,_)) (by refine ⟨?_,?_,trivial⟩<;>(first | rfl | exact c1)) (by refine ⟨?_,?_,?_,?_,?_,?_,trivial⟩<;>(first | exact ah rfl | exact v1 | exact vs | exact ah (decide_eq_true (by omega)) | exact ah (decide_eq_false (by omega)))) ?_
      exact hn
    ·have hn:=ih (false,i+1) ⟨by simp only;omega,by
      simp only [Bool.false_eq_true,false_iff];rw [et,List.all_append];simp [aQ.fK,g1]⟩ (by simp only;omega)
     simp only at hn;refine WK.cZ ok 1000 0 [(40,aj true),(47,bK (c.toNat:Int)),(48,aj false),(42,aA ((i+1:Nat):Int))] [] [6,7,8] [decide (0≤(i:Int)∧(i:Int) < ((List.length d:Nat):Int))] [(aj (decide ((i:Int) < ((List.length d:Nat):Int))),aj true),(bK ((List.getD d (i:Int).toNat (0:UInt8)).toNat:Int),bK (c.toNat:Int)),(aj (decide (48≤(c.toNat:Int))),aj false),(aA (IntKind.i64.wrap ((i:Int)+1)),aA ((i+1:Nat):Int))] rfl (by kernel_rfl:aJ (bq Ho) 1000 0 _ _ _ _ (DC d true (i:Int))=some (av KF 0,DC d false ((i+1:Nat):Int),_,_)) ⟨(by first | rfl | exact c1),trivial⟩ (by refine ⟨?_,?_,?_,?_,trivial⟩<;>(first | exact ah rfl | exact v1 | exact vs | exact ah (decide_eq_true (by omega)) | exact ah (decide_eq_false (by omega)))) ?_
     exact hn
 ·have et:d.take i=d:=List.take_of_length_le (by omega);rw [et] at h2;cases b with
  | false=>
    obtain ⟨q1,q2⟩:=Jk hi (by
     rw [hd];by_cases g:d=[]
     ·exact .inl g
     ·refine .inr (.inr fun ha=>?_)
      have:=h2.2 ⟨g,ha⟩
      cases this)
    exact WK.fin ok 1000 0 [(40,aj false)] [] [(aj (decide ((i:Int) < ((List.length d:Nat):Int))),aj false)] rfl (by kernel_rfl:au (bq Ho) true _ 1000 0 _ _ (DC d false (i:Int))=some (RV.aZ [aA (0),aA (0)],[],_,_)) trivial ⟨(by first | exact ah rfl | exact ah (decide_eq_false (by omega))),trivial⟩ ⟨by rw [q1,q2],rfl⟩
  | true=>
    have h3:=h2.1 rfl
    obtain ⟨c,r,hcr⟩:∃c r,d=c::r:=by
     cases d with
     | nil=>exact absurd rfl h3.1
     | cons c r=>exact ⟨c,r,rfl⟩
    have e3:d.getD 0 0=c:=by rw [hcr];rfl
    have hlen:d.length=r.length+1:=by rw [hcr];rfl
    have v0:iI (.d (.int .u8 (Nat.cast (R:=Int) (d.getD 0 0).toNat))) (.d (.int .u8 (Nat.cast (R:=Int) c.toNat))):=.of_eq (by rw [e3]);have c0:decide ((0:Int)≤0∧0 < (Nat.cast (R:=Int) d.length))=true:=decide_eq_true (by omega);by_cases g:c=48
    ·obtain ⟨q1,q2⟩:=Jk hi (.inr (.inl (by rw [hd,hcr,g];rfl)));exact WK.fin ok 1000 0 [(40,aj false),(57,aj false),(60,bK (c.toNat:Int)),(61,aj true)] [decide ((0:Int)≤0∧(0:Int) < ((List.length d:Nat):Int))] [(aj (decide ((i:Int) < ((List.length d:Nat):Int))),aj false),(aj false,aj false),(bK ((List.getD d 0 (0:UInt8)).toNat:Int),bK (c.toNat:Int)),(aj ((c.toNat:Int)==48),aj true)] rfl (by kernel_rfl:au (bq Ho) true _ 1000 0 _ _ (DC d true (i:Int))=some (RV.aZ [aA (0),aA (0)],[],_,_)) ⟨(by first | rfl | exact c0),trivial⟩ (by refine ⟨?_,?_,?_,?_,trivial⟩<;>(first | exact ah rfl | exact v0 | exact ah (xK (k:=48) (by omega) g) | exact ah (decide_eq_false (by omega)))) ⟨by rw [q1,q2],rfl⟩
    ·obtain ⟨q1,q2⟩:=Nu hi (by
      rw [hd]
      rintro (h | h | h)
      ·exact h3.1 h
      ·rw [hcr] at h;exact g (Option.some.inj h)
      ·exact h h3.2)
     exact WK.fin ok 1000 0 [(40,aj false),(57,aj false),(60,bK (c.toNat:Int)),(61,aj false)] [decide ((0:Int)≤0∧(0:Int) < ((List.length d:Nat):Int))] [(aj (decide ((i:Int) < ((List.length d:Nat):Int))),aj false),(aj false,aj false),(bK ((List.getD d 0 (0:UInt8)).toNat:Int),bK (c.toNat:Int)),(aj ((c.toNat:Int)==48),aj false)] rfl (by kernel_rfl:au (bq Ho) true _ 1000 0 _ _ (DC d true (i:Int))=some (RV.aZ [aA (0),aA (1)],[],_,_)) ⟨(by first | rfl | exact c0),trivial⟩ (by refine ⟨?_,?_,?_,?_,trivial⟩<;>(first | exact ah rfl | exact v0 | exact ah (zA (k:=48) (by omega) g) | exact ah (decide_eq_false (by omega)))) ⟨by rw [q1,q2],rfl⟩
set_option maxHeartbeats 400000 in
theorem aar (s:W) (hs:s.length≤1000000):Go.Am.C Tryz.prog 25 [.d (.str s)] [] (fun r o=>r = .aZ [.d (.int .i64 (uK s)),.d (.int .i64 (iV s))]∧o=[]):=by
 have ok:=aH Nt;refine bn (fn:=Tryz.f25) (body:=KF) true (by kernel_rfl) (by kernel_rfl) (by kernel_rfl) ?_;have b2:decide (s.length≤1000000)=true:=decide_eq_true hs;cases hi:aQ.intOf s with
 | some n=>
   have hv:vR s=(1,n,[],0):=Xu hi;obtain ⟨q1,q2⟩:=XV hi;obtain ⟨z,hz⟩:∃z:W,z=[]:=⟨_,rfl⟩;exact WK.fin ok 1000 0 [(12,RV.d (DV.agg [aU (1),aI n,DV.str z])),(13,aA (0)),(20,aj true)] [decide (List.length s≤1000000)] [(RV.d (DV.agg [aU (Go.aQ.vR s).1,aI (Go.aQ.vR s).snd.1,DV.str (Go.aQ.vR s).snd.snd.1]),RV.d (DV.agg [aU (1),aI n,DV.str z])),(aA (Go.aQ.vR s).snd.snd.2,aA (0)),(aj (match 0==0 with | true=>1==1 | false=>false),aj true)] rfl (by kernel_rfl:au (bq Ho) true _ 1000 0 _ _ (dz 63 [.d (.str s)] [])=some (RV.aZ [aA n,aA (2)],[],_,_)) ⟨(by first | rfl | exact b2),trivial⟩ (by refine ⟨?_,?_,?_,trivial⟩<;>(first | exact ah rfl | exact .of_eq (by rw [hv,hz]) | exact .of_eq (by rw [hv]))) ⟨by rw [q1,q2],rfl⟩
 | none=>
   have hno:¬((vR s).2.2.2=0∧(vR s).1=1):=Xv hi;obtain ⟨v,hv⟩:∃v,vR s=v:=⟨_,rfl⟩;rw [hv] at hno;obtain ⟨k,n,z,e⟩:=v;have hno:¬(e=0∧k=1):=hno;have hmg:=E5 s;cases hs0:s with
   | nil=>
     obtain ⟨s2,hs2⟩:∃s2:W,[]=s2:=⟨_,rfl⟩;have hk:=DF s s (by rw [hs0];rfl) (by omega) hi;rw [hs0] at hv hk b2;have hl0:s2.length=0:=by rw [←hs2];rfl
     have hem:s2.isEmpty=true:=by rw [←hs2];rfl
     rw [hs2] at hv hk b2 ⊢;rw [hem] at hk;rcases bo (e==0:Bool) with h16 | h16
     ·skip
      refine WK.cZ ok 1000 0 [(12,RV.d (DV.agg [aU k,aI n,DV.str z])),(13,aA e),(20,aj false),(26,aj false),(36,aj false),(16,aj true)] [] [6,7,8] [decide (List.length s2≤1000000)] [(RV.d (DV.agg [aU (Go.aQ.vR s2).1,aI (Go.aQ.vR s2).snd.1,DV.str (Go.aQ.vR s2).snd.snd.1]),RV.d (DV.agg [aU k,aI n,DV.str z])),(aA (Go.aQ.vR s2).snd.snd.2,aA e),(aj (e==0),aj true),(aj (k==1),aj false),(aj (decide (0 < ((List.length s2:Nat):Int))),aj false),(aj (decide (0 < ((List.length s2:Nat):Int))),aj false)] rfl (by kernel_rfl:aJ (bq Ho) 1000 0 _ _ _ _ (dz 63 [.d (.str s2)] [])=some (av KF 0,DC s2 false (0:Nat),_,_)) ⟨(by first | rfl | exact b2),trivial⟩ (by refine ⟨?_,?_,ah h16,?_,?_,?_,trivial⟩<;>(first | exact ah rfl | exact .of_eq (by rw [hv]) | exact ah (decide_eq_false (by omega)) | exact ah (beq_false_of_ne (fun hh=>hno ⟨by simpa using h16,hh⟩)))) ?_
      exact hk
     ·skip
      refine WK.cZ ok 1000 0 [(12,RV.d (DV.agg [aU k,aI n,DV.str z])),(13,aA e),(20,aj false),(26,aj false),(36,aj false),(16,aj false)] [] [6,7,8] [decide (List.length s2≤1000000)] [(RV.d (DV.agg [aU (Go.aQ.vR s2).1,aI (Go.aQ.vR s2).snd.1,DV.str (Go.aQ.vR s2).snd.snd.1]),RV.d (DV.agg [aU k,aI n,DV.str z])),(aA (Go.aQ.vR s2).snd.snd.2,aA e),(aj (e==0),aj false),(aj false,aj false),(aj (decide (0 < ((List.length s2:Nat):Int))),aj false),(aj (decide (0 < ((List.length s2:Nat):Int))),aj false)] rfl (by kernel_rfl:aJ (bq Ho) 1000 0 _ _ _ _ (dz 63 [.d (.str s2)] [])=some (av KF 0,DC s2 false (0:Nat),_,_)) ⟨(by first | rfl | exact b2),trivial⟩ (by refine ⟨?_,?_,ah h16,?_,?_,?_,trivial⟩<;>(first | exact ah rfl | exact .of_eq (by rw [hv]) | exact ah (decide_eq_false (by omega)) | exact ah (beq_false_of_ne (fun hh=>hno ⟨by simpa using h16,hh⟩)))) ?_
      exact hk
   | cons c r=>
     have e3:s.getD 0 0=c:=by rw [hs0];rfl
     have hlen:s.length=r.length+1:=by rw [hs0];rfl
     have c0:decide ((0:Int)≤0∧0 < (Nat.cast (R:=Int) s.length))=true:=decide_eq_true (by omega);have c1:decide ((0:Int)≤1∧1≤(Nat.cast (R:=Int) s.length))=true:=decide_eq_true (by omega);by_cases h45:c=45
     ·have e1:((Nat.cast (R:=Int) (s.getD 0 0).toNat)==45)=true:=by rw [e3];exact xK (k:=45) (by omega) h45
      obtain ⟨d,hd⟩:∃d,r=d:=⟨_,rfl⟩;have e2:bM s (some 1) none=d:=by rw [hs0,←hd];rfl
      have hk:=DF s d (by rw [hmg,hs0,h45,←hd];rfl) (by rw [←hd];omega) hi;obtain ⟨q,hq⟩:∃q,(!d.isEmpty)=q:=⟨_,rfl⟩
      have e4:decide ((0:Int) < (Nat.cast (R:=Int) d.length))=q:=by
       rw [←hq];cases d with
       | nil=>rfl
       | cons a b=>simp only [List.isEmpty_cons,Bool.not_false,List.length_cons];exact decide_eq_true (by omega)
      rw [hq] at hk;rw [←hs0];rcases bo (e==0:Bool) with h16 | h16
      ·skip
       refine WK.cZ ok 1000 0 [(12,RV.d (DV.agg [aU k,aI n,DV.str z])),(13,aA e),(20,aj false),(26,aj true),(30,aj true),(33,dH d),(36,aj q),(16,aj true)] [] [6,7,8] [decide (List.length s≤1000000),decide ((0:Int)≤0∧(0:Int) < ((List.length s:Nat):Int)),decide ((0:Int)≤1∧(1:Int)≤((List.length s:Nat):Int))] [(RV.d (DV.agg [aU (Go.aQ.vR s).1,aI (Go.aQ.vR s).snd.1,DV.str (Go.aQ.vR s).snd.snd.1]),RV.d (DV.agg [aU k,aI n,DV.str z])),(aA (Go.aQ.vR s).snd.snd.2,aA e),(aj (e==0),aj true),(aj (k==1),aj false),(aj (decide (0 < ((List.length s:Nat):Int))),aj true),(aj (((List.getD s 0 (0:UInt8)).toNat:Int)==45),aj true),(dH (bM s (Option.some (1)) Option.none),dH d),(aj (decide (0 < ((List.length d:Nat):Int))),aj q)] rfl (by kernel_rfl:aJ (bq Ho) 1000 0 _ _ _ _ (dz 63 [.d (.str s)] [])=some (av KF 0,DC d q (0:Nat),_,_)) (by refine ⟨?_,?_,?_,trivial⟩<;>(first | rfl | exact b2 | exact c0 | exact c1)) (by refine ⟨?_,?_,ah h16,?_,?_,?_,?_,?_,trivial⟩<;>(first | exact ah rfl | exact ah e1 | exact ah e4 | exact .of_eq (by rw [hv]) | exact .of_eq (by rw [e2]) | exact ah (decide_eq_true (by omega)) | exact ah (decide_eq_false (by omega)) | exact ah (beq_false_of_ne (fun hh=>hno ⟨by simpa using h16,hh⟩)))) ?_
       exact hk
      ·skip
       refine WK.cZ ok 1000 0 [(12,RV.d (DV.agg [aU k,aI n,DV.str z])),(13,aA e),(20,aj false),(26,aj true),(30,aj true),(33,dH d),(36,aj q),(16,aj false)] [] [6,7,8] [decide (List.length s≤1000000),decide ((0:Int)≤0∧(0:Int) < ((List.length s:Nat):Int)),decide ((0:Int)≤1∧(1:Int)≤((List.length s:Nat):Int))] [(RV.d (DV.agg [aU (Go.aQ.vR s).1,aI (Go.aQ.vR s).snd.1,DV.str (Go.aQ.vR s).snd.snd.1]),RV.d (DV.agg [aU k,aI n,DV.str z])),(aA (Go.aQ.vR s).snd.snd.2,aA e),(aj (e==0),aj false),(aj false,aj false),(aj (decide (0 < ((List.length s:Nat):Int))),aj true),(aj (((List.getD s 0 (0:UInt8)).toNat:Int)==45),aj true),(dH (bM s (Option.some (1)) Option.none),dH d),(aj (decide (0 < ((List.length d:Nat):Int))),aj q)] rfl (by kernel_rfl:aJ (bq Ho) 1000 0 _ _ _ _ (dz 63 [.d (.str s)] [])=some (av KF 0,DC d q (0:Nat),_,_)) (by refine ⟨?_,?_,?_,trivial⟩<;>(first | rfl | exact b2 | exact c0 | exact c1)) (by refine ⟨?_,?_,ah h16,?_,?_,?_,?_,?_,trivial⟩<;>(first | exact ah rfl | exact ah e1 | exact ah e4 | exact .of_eq (by rw [hv]) | exact .of_eq (by rw [e2]) | exact ah (decide_eq_true (by omega)) | exact ah (decide_eq_false (by omega)) | exact ah (beq_false_of_ne (fun hh=>hno ⟨by simpa using h16,hh⟩)))) ?_
       exact hk
     ·have e1:((Nat.cast (R:=Int) (s.getD 0 0).toNat)==45)=false:=by rw [e3];exact zA (k:=45) (by omega) h45
      have hk:=DF s s (by rw [hmg];unfold mag;rw [if_neg (by rw [hs0];intro h;exact h45 (Option.some.inj h))]) (by omega) hi;have hem:(!s.isEmpty)=true:=by rw [hs0];rfl
      rw [hem] at hk;rw [←hs0];rcases bo (e==0:Bool) with h16 | h16
      ·skip
       refine WK.cZ ok 1000 0 [(12,RV.d (DV.agg [aU k,aI n,DV.str z])),(13,aA e),(20,aj false),(26,aj true),(30,aj false),(36,aj true),(16,aj true)] [] [6,7,8] [decide (List.length s≤1000000),decide ((0:Int)≤0∧(0:Int) < ((List.length s:Nat):Int))] [(RV.d (DV.agg [aU (Go.aQ.vR s).1,aI (Go.aQ.vR s).snd.1,DV.str (Go.aQ.vR s).snd.snd.1]),RV.d (DV.agg [aU k,aI n,DV.str z])),(aA (Go.aQ.vR s).snd.snd.2,aA e),(aj (e==0),aj true),(aj (k==1),aj false),(aj (decide (0 < ((List.length s:Nat):Int))),aj true),(aj (((List.getD s 0 (0:UInt8)).toNat:Int)==45),aj false),(aj (decide (0 < ((List.length s:Nat):Int))),aj true)] rfl (by kernel_rfl:aJ (bq Ho) 1000 0 _ _ _ _ (dz 63 [.d (.str s)] [])=some (av KF 0,DC s true (0:Nat),_,_)) (by refine ⟨?_,?_,trivial⟩<;>(first | rfl | exact b2 | exact c0)) (by refine ⟨?_,?_,ah h16,?_,?_,?_,?_,trivial⟩<;>(first | exact ah rfl | exact ah e1 | exact .of_eq (by rw [hv]) | exact ah (decide_eq_true (by omega)) | exact ah (decide_eq_false (by omega)) | exact ah (beq_false_of_ne (fun hh=>hno ⟨by simpa using h16,hh⟩)))) ?_
       exact hk
      ·skip
       refine WK.cZ ok 1000 0 [(12,RV.d (DV.agg [aU k,aI n,DV.str z])),(13,aA e),(20,aj false),(26,aj true),(30,aj false),(36,aj true),(16,aj false)] [] [6,7,8] [decide (List.length s≤1000000),decide ((0:Int)≤0∧(0:Int) < ((List.length s:Nat):Int))] [(RV.d (DV.agg [aU (Go.aQ.vR s).1,aI (Go.aQ.vR s).snd.1,DV.str (Go.aQ.vR s).snd.snd.1]),RV.d (DV.agg [aU k,aI n,DV.str z])),(aA (Go.aQ.vR s).snd.snd.2,aA e),(aj (e==0),aj false),(aj false,aj false),(aj (decide (0 < ((List.length s:Nat):Int))),aj true),(aj (((List.getD s 0 (0:UInt8)).toNat:Int)==45),aj false),(aj (decide (0 < ((List.length s:Nat):Int))),aj true)] rfl (by kernel_rfl:aJ (bq Ho) 1000 0 _ _ _ _ (dz 63 [.d (.str s)] [])=some (av KF 0,DC s true (0:Nat),_,_)) (by refine ⟨?_,?_,trivial⟩<;>(first | rfl | exact b2 | exact c0)) (by refine ⟨?_,?_,ah h16,?_,?_,?_,?_,trivial⟩<;>(first | exact ah rfl | exact ah e1 | exact .of_eq (by rw [hv]) | exact ah (decide_eq_true (by omega)) | exact ah (decide_eq_false (by omega)) | exact ah (beq_false_of_ne (fun hh=>hno ⟨by simpa using h16,hh⟩)))) ?_
       exact hk
def TQ:DV→Option (RV×List Bool)
 | .str s=>some (.aZ [.d (.int .i64 (uK s)),.d (.int .i64 (iV s))],[decide (s.length≤1000000)])
 | _=>none
theorem Qk:bY Tryz.prog 25 (wK TQ):=by
 refine kR fun x y c hg hc=>?_;unfold TQ at hg;split at hg
 ·rename_i s;simp only [Option.some.injEq,Prod.mk.injEq] at hg;obtain ⟨rfl,rfl⟩:=hg;exact aar s (of_decide_eq_true (hc _ (by simp:decide (s.length≤1000000)∈[decide (s.length≤1000000)])))
 ·cases hg
def jn (w:W):List W→List W
 | []=>[w]
 | h::t=>(w++h)::t
theorem Nv {l:List W} (h:l≠[]):jn [] l=l:=by
 cases l with
 | nil=>exact absurd rfl h
 | cons a b=>rfl
theorem Fu {α:Type}:∀(l:List α) (a b:α),(l++[a]).set l.length b=l++[b]
 | [],_,_=>rfl
 | x::l,a,b=>by show x::(l++[a]).set l.length b=x::(l++[b]);rw [Fu l a b]
theorem pU (s:W):aQ.split s≠[]:=by rw [jC s];simp
theorem Nw (w r:W):jn w (aQ.split (32::r))=w::aQ.split r:=by
 rw [oz,if_pos rfl];simp [jn]
theorem Ql (w r:W) (c:UInt8) (h:c≠32):jn w (aQ.split (c::r))=jn (w++[c]) (aQ.split r):=by
 rw [oz,if_neg h]
 have:=pU r
 cases hs:aQ.split r with
 | nil=>exact absurd hs this
 | cons a b=>simp [jn]
abbrev dQ (l:List W):List DV:=l.map DV.str
abbrev Hq (s:W):bQ→Prop:=rR (Tryz.f23.results.toList) 0 (fun r o=>r = .d (.aF 1 (dQ (aQ.split s)) false)∧o=[])
def spF (s:W) (p:List W×W×Nat):iU:=OJ s (dQ p.1++[.str p.2.1]) (p.2.2:Int)
def spI (s:W) (p:List W×W×Nat):Prop:=p.2.2≤s.length∧p.1.length≤p.2.2∧p.2.1.length≤p.2.2∧aQ.split s=p.1++jn p.2.1 (aQ.split (s.drop p.2.2))
theorem Hr (s:W) (a:List W) (b:W) (c:Nat):spF s (a,b,c)=OJ s (dQ a++[.str b]) (c:Int):=rfl
set_option maxHeartbeats 400000 in
theorem Qm (s:W) (hs:s.length≤1000000):WK Tryz.prog 0 (av TN 0) (spF s ([],[],0)).den (Hq s):=by
 have ok:=aH (l:=[]) .nil;have h0:spI s ([],[],0):=⟨by simp,by simp,by simp,by simp only [List.drop_zero,List.nil_append];rw [Nv (pU s)]⟩;refine WK.rec' (spF s) (spI s) (fun p=>s.length-p.2.2) ?_ ([],[],0) h0
 rintro ⟨pre,w,i⟩ ⟨h1,h2,h3,h4⟩ ih
 simp only at h1 h2 h3 h4;rw [Hr];have ih:∀O7 w2 i2,spI s (O7,w2,i2)→s.length-i2 < s.length-i→WK Tryz.prog 0 (av TN 0) (OJ s (dQ O7++[.str w2]) (i2:Int)).den (Hq s):=fun a b c h1 h2=>Hr s a b c▸ih (a,b,c) h1 h2;have hsl:(dQ pre).length=pre.length:=List.length_map ..;by_cases he:i < s.length
 ·obtain ⟨c,hc⟩:∃c,s[i]? = some c:=⟨_,List.getElem?_eq_getElem he⟩;have v1:=lg hc;have c1:=uq he;have vs:=dB (i:=i) (by omega);rw [drop1 hc] at h4;by_cases h32:c=32
  ·rw [h32,Nw] at h4;have hn:=ih (pre++[w]) [] (i+1) ⟨by simp only;omega,by simp only [List.length_append,List.length_cons,List.length_nil];omega,by simp,by simp only;rw [h4,Nv (pU _)];simp⟩ (by omega);simp only [dQ,List.map_append,List.map_cons,List.map_nil] at hn;obtain ⟨out,ho⟩:∃out,dQ pre++[DV.str w]=out:=⟨_,rfl⟩;have hol:out.length=pre.length+1:=by rw [←ho,List.length_append,hsl];rfl
   have hn:WK Tryz.prog 0 (av TN 0) (OJ s (out++[.str []]) ((i+1:Nat):Int)).den (Hq s):=by rw [←ho];exact hn
   have c2:decide ((out.length+[DV.str []].length)*16≤2 ^ 38)=true:=decide_eq_true (by simp only [List.length_cons,List.length_nil];omega);rw [ho];refine WK.cZ ok 1000 0 [(9,aj true),(14,bK (c.toNat:Int)),(15,aj true),(11,aA ((i+1:Nat):Int))] [] [0,3,4] [decide (0≤(i:Int)∧(i:Int) < ((List.length s:Nat):Int)),decide ((out.length+[DV.str ([]:List UInt8)].length)*Go.Proofs.Tryz.prog.types[9].bytes≤2 ^ 38)] [(aj (decide ((i:Int) < ((List.length s:Nat):Int))),aj true),(bK ((List.getD s (i:Int).toNat (0:UInt8)).toNat:Int),bK (c.toNat:Int)),(aj ((c.toNat:Int)==32),aj true),(aA (IntKind.i64.wrap ((i:Int)+1)),aA ((i+1:Nat):Int))] rfl (by kernel_rfl:aJ (bq []) 1000 0 _ _ _ _ (OJ s out (i:Int))=some (av TN 0,OJ s (out++[.str []]) ((i+1:Nat):Int),_,_)) (by refine ⟨?_,?_,trivial⟩<;>(first | rfl | exact c1 | exact c2)) (by refine ⟨?_,?_,?_,?_,trivial⟩<;>(first | exact ah rfl | exact v1 | exact vs | exact ah (xK (k:=32) (by omega) h32) | exact ah (decide_eq_true (by omega)))) ?_
   exact hn
  ·rw [Ql _ _ _ h32] at h4;have hn:=ih pre (w++[c]) (i+1) ⟨by simp only;omega,by simp only;omega,by simp only [List.length_append,List.length_cons,List.length_nil];omega,h4⟩ (by omega);obtain ⟨out,ho⟩:∃out,dQ pre++[DV.str w]=out:=⟨_,rfl⟩;have hol:out.length=pre.length+1:=by rw [←ho,List.length_append,hsl];rfl
   obtain ⟨z,hz⟩:∃z:W,w++[c]=z:=⟨_,rfl⟩
   have hset:dQ pre++[DV.str z]=out.set (pre.length:Int).toNat (.str z):=by
    rw [←ho,Int.toNat_natCast,←hsl,Fu]
   rw [hz,hset] at hn;obtain ⟨k,hk⟩:∃k:Int,(pre.length:Int)=k:=⟨_,rfl⟩;obtain ⟨t1,ht1⟩:∃t1:W,[c]=t1:=⟨_,rfl⟩;have hkl:k.toNat=pre.length:=by rw [←hk,Int.toNat_natCast]
   have e1:IntKind.i64.wrap ((Nat.cast (R:=Int) out.length)-1)=k:=by rw [bC _ (by omega)];omega
   have e2:out.getD k.toNat DV.aG = .str w:=by rw [hkl,←ho,List.getD,List.getElem?_append_right (by omega),hsl,Nat.sub_self];rfl
   have wi:IntKind.i64.wrap ((Nat.cast (R:=Int) i)+1)=((i+1:Nat):Int):=by rw [bC _ (by omega)];omega
   have e3:bM s (some (Nat.cast (R:=Int) i)) (some (IntKind.i64.wrap ((Nat.cast (R:=Int) i)+1)))=t1:=by
    rw [wi,←ht1]
    show (s.take ((i+1:Nat):Int).toNat).drop (i:Int).toNat=[c]
    rw [Int.toNat_natCast,Int.toNat_natCast,List.take_add_one,hc,List.drop_append_of_le_length (by rw [List.length_take];omega),List.drop_of_length_le (by rw [List.length_take];omega)];rfl
   have e4:w++t1=z:=by rw [←ht1];exact hz
   have c3:decide ((0:Int)≤k∧k < (Nat.cast (R:=Int) out.length))=true:=decide_eq_true (by omega);have c4:decide (k.toNat < out.length)=true:=decide_eq_true (by omega);have c5:(out.getD k.toNat DV.aG).gI=true:=by rw [e2];rfl
   have c6:decide ((0:Int)≤IntKind.i64.wrap ((Nat.cast (R:=Int) i)+1)∧IntKind.i64.wrap ((Nat.cast (R:=Int) i)+1)≤(Nat.cast (R:=Int) s.length))=true:=by rw [wi];exact decide_eq_true (by omega)
   have c7:decide ((0:Int)≤(Nat.cast (R:=Int) i)∧(Nat.cast (R:=Int) i)≤(Nat.cast (R:=Int) (IntKind.i64.wrap ((Nat.cast (R:=Int) i)+1)).toNat))=true:=by rw [wi];exact decide_eq_true (by omega)
   have c8:decide (w.length+t1.length≤2 ^ 62)=true:=decide_eq_true (by rw [←ht1];simp only [List.length_cons,List.length_nil];omega);rw [hk] at hn;rw [ho];refine WK.cZ ok 1000 0 [(9,aj true),(14,bK (c.toNat:Int)),(15,aj false),(22,aA k),(26,aA k),(28,dH w),(33,dH t1),(34,dH z),(11,aA ((i+1:Nat):Int))] [] [0,3,4] [decide (0≤(i:Int)∧(i:Int) < ((List.length s:Nat):Int)),decide (0≤k∧k < (out.length:Int)),decide (k.toNat < out.length),(out.getD k.toNat DV.aG).gI,decide (0≤IntKind.i64.wrap ((i:Int)+1)∧IntKind.i64.wrap ((i:Int)+1)≤((List.length s:Nat):Int)),decide (0≤(i:Int)∧(i:Int)≤((IntKind.i64.wrap ((i:Int)+1)).toNat:Int)),decide (List.length w+List.length t1≤2 ^ 62),decide (0≤k∧k < (out.length:Int)),decide (k.toNat < out.length)] [(aj (decide ((i:Int) < ((List.length s:Nat):Int))),aj true),(bK ((List.getD s (i:Int).toNat (0:UInt8)).toNat:Int),bK (c.toNat:Int)),(aj ((c.toNat:Int)==32),aj false),(aA (IntKind.i64.wrap ((out.length:Int)-1)),aA k),(aA (IntKind.i64.wrap ((out.length:Int)-1)),aA k),(RV.d (out.getD k.toNat DV.aG),dH w),(dH (bM s (Option.some (i:Int)) (Option.some (IntKind.i64.wrap ((i:Int)+1)))),dH t1),(dH (w++t1),dH z),(aA (IntKind.i64.wrap ((i:Int)+1)),aA ((i+1:Nat):Int))] rfl (by kernel_rfl:aJ (bq []) 1000 0 _ _ _ _ (OJ s out (i:Int))=some (av TN 0,OJ s (out.set k.toNat (.str z)) ((i+1:Nat):Int),_,_)) (by refine ⟨?_,?_,?_,?_,?_,?_,?_,?_,?_,trivial⟩<;>(first | rfl | exact c1 | exact c3 | exact c4 | exact c5 | exact c6 | exact c7 | exact c8)) (by refine ⟨?_,?_,?_,?_,?_,?_,?_,?_,?_,trivial⟩<;>(first | exact ah rfl | exact v1 | exact vs | exact ah (zA (k:=32) (by omega) h32) | exact .of_eq (by rw [e1]) | exact .of_eq (by rw [e2]) | exact .of_eq (by rw [e3]) | exact .of_eq (by rw [e4]) | exact ah (decide_eq_true (by omega)))) ?_
   exact hn
 ·have hq:dQ pre++[DV.str w]=dQ (aQ.split s):=by
   rw [h4,List.drop_eq_nil_of_le (by omega)];simp [dQ,aQ.split,jn]
  rw [hq];obtain ⟨out,ho⟩:∃out,dQ (aQ.split s)=out:=⟨_,rfl⟩;rw [ho];exact WK.fin ok 1000 0 [(9,aj false)] [] [(aj (decide ((i:Int) < ((List.length s:Nat):Int))),aj false)] rfl (by kernel_rfl:au (bq []) true _ 1000 0 _ _ (OJ s out (i:Int))=some (RV.d (DV.aF 1 out false),[],_,_)) trivial ⟨(by first | exact ah rfl | exact ah (decide_eq_false (by omega))),trivial⟩ ⟨by rw [ho],rfl⟩
theorem aas (s:W) (hs:s.length≤1000000):Go.Am.C Tryz.prog 23 [.d (.str s)] [] (fun r o=>r = .d (.aF 1 (dQ (aQ.split s)) false)∧o=[]):=by
 have ok:=aH (l:=[]) .nil;refine bn (fn:=Tryz.f23) (body:=TN) true (by kernel_rfl) (by kernel_rfl) (by kernel_rfl) ?_;have hk:=Qm s hs;rw [Hr] at hk;have e0:dQ []++[DV.str []]=[.str []]:=rfl;rw [e0] at hk;refine WK.cZ ok 1000 0 [] [] [0,3,4] [] [] rfl (by kernel_rfl:aJ (bq []) 1000 0 _ _ _ _ (dz 37 [.d (.str s)] [])=some (av TN 0,OJ s [.str []] (0:Nat),_,_)) trivial trivial ?_;exact hk
def spE:DV→Option (RV×List Bool)
 | .str s=>some (.d (.aF 1 (dQ (aQ.split s)) false),[decide (s.length≤1000000)])
 | _=>none
theorem TR:bY Tryz.prog 23 (wK spE):=by
 refine kR fun x y c hg hc=>?_;unfold spE at hg;split at hg
 ·rename_i s;simp only [Option.some.injEq,Prod.mk.injEq] at hg;obtain ⟨rfl,rfl⟩:=hg;exact aas s (of_decide_eq_true (hc _ (by simp:decide (s.length≤1000000)∈[decide (s.length≤1000000)])))
 ·cases hg
def mJ (l:List Bool):W:=l.map fun b=>if b then 43 else 45
abbrev Ny (l:List Bool):bQ→Prop:=rR (Tryz.f26.results.toList) 0 (fun r o=>r = .d (.str (mJ l))∧o=[])
theorem Nz {ks:List DV} {i:Nat} {b:Bool} (h:ks[i]? = some (.bool b)):iI (.aN (ks.getD (Nat.cast (R:=Int) i).toNat DV.aG) 0) (.aN (.bool b) 0):=.of_eq (by rw [Int.toNat_natCast,List.getD,h];rfl)
set_option maxHeartbeats 400000 in
theorem Qn (l:List Bool) (fl:Bool) (hl:l.length≤1000000):WK Tryz.prog 0 (av Rv 0) (Ns (.aF 1 (l.map DV.bool) fl) [] (0:Nat)).den (Ny l):=by
 have ok:=aH (l:=[]) .nil;refine WK.rec' (fun i:Nat=>Ns (.aF 1 (l.map DV.bool) fl) (mJ (l.take i)) (i:Int)) (fun i=>i≤l.length) (fun i=>l.length-i) ?_ 0 (by omega);intro i hi ih;have hkl:(l.map DV.bool).length=l.length:=List.length_map ..;have hol:(mJ (l.take i)).length≤1000000:=by unfold mJ;rw [List.length_map,List.length_take];omega
 by_cases he:i < l.length
 ·obtain ⟨b,hb⟩:∃b,l[i]? = some b:=⟨_,List.getElem?_eq_getElem he⟩;have hn:=ih (i+1) (by omega) (by omega);have vs:=dB (i:=i) (by omega);have vb:iI (.aN ((l.map DV.bool).getD (Nat.cast (R:=Int) i).toNat DV.aG) 0) (.aN (.bool b) 0):=Nz (by rw [List.getElem?_map,hb];rfl);have et:mJ (l.take (i+1))=mJ (l.take i)++[if b then 43 else 45]:=by unfold mJ;rw [List.take_add_one,hb,List.map_append];rfl
  rw [et] at hn;generalize l.map DV.bool=ks at *;generalize mJ (l.take i)=o at *;have c1:decide ((0:Int)≤(Nat.cast (R:=Int) i)∧(Nat.cast (R:=Int) i) < (Nat.cast (R:=Int) ks.length))=true:=decide_eq_true (by omega);have c2:∀x:UInt8,decide (o.length+[x].length≤2 ^ 62)=true:=fun x=>decide_eq_true (by simp only [List.length_cons,List.length_nil];omega);cases b with
  | true=>
    refine WK.cZ ok 1000 0 [(8,aj true),(13,RV.aN (aB true) 0),(10,aA ((i+1:Nat):Int))] [] [0,3,4] [decide (0≤(i:Int)∧(i:Int) < (ks.length:Int)),decide (List.length o+([43]:List UInt8).length≤2 ^ 62)] [(aj (decide ((i:Int) < (ks.length:Int))),aj true),(RV.aN (ks.getD (i:Int).toNat DV.aG) 0,RV.aN (aB true) 0),(aA (IntKind.i64.wrap ((i:Int)+1)),aA ((i+1:Nat):Int))] rfl (by kernel_rfl:aJ (bq []) 1000 0 _ _ _ _ (Ns (.aF 1 ks fl) o (i:Int))=some (av Rv 0,Ns (.aF 1 ks fl) (o++[43]) ((i+1:Nat):Int),_,_)) (by refine ⟨?_,?_,trivial⟩<;>(first | rfl | exact c1 | exact c2 _)) (by refine ⟨?_,?_,?_,trivial⟩<;>(first | exact ah rfl | exact vb | exact vs | exact ah (decide_eq_true (by omega)))) ?_
    exact hn
  | false=>
    refine WK.cZ ok 1000 0 [(8,aj true),(13,RV.aN (aB false) 0),(10,aA ((i+1:Nat):Int))] [] [0,3,4] [decide (0≤(i:Int)∧(i:Int) < (ks.length:Int)),decide (List.length o+([45]:List UInt8).length≤2 ^ 62)] [(aj (decide ((i:Int) < (ks.length:Int))),aj true),(RV.aN (ks.getD (i:Int).toNat DV.aG) 0,RV.aN (aB false) 0),(aA (IntKind.i64.wrap ((i:Int)+1)),aA ((i+1:Nat):Int))] rfl (by kernel_rfl:aJ (bq []) 1000 0 _ _ _ _ (Ns (.aF 1 ks fl) o (i:Int))=some (av Rv 0,Ns (.aF 1 ks fl) (o++[45]) ((i+1:Nat):Int),_,_)) (by refine ⟨?_,?_,trivial⟩<;>(first | rfl | exact c1 | exact c2 _)) (by refine ⟨?_,?_,?_,trivial⟩<;>(first | exact ah rfl | exact vb | exact vs | exact ah (decide_eq_true (by omega)))) ?_
    exact hn
 ·have et:l.take i=l:=List.take_of_length_le (by omega);rw [et];obtain ⟨o,ho⟩:∃o,mJ l=o:=⟨_,rfl⟩;rw [ho];generalize l.map DV.bool=ks at *;exact WK.fin ok 1000 0 [(8,aj false)] [] [(aj (decide ((i:Int) < (ks.length:Int))),aj false)] rfl (by kernel_rfl:au (bq []) true _ 1000 0 _ _ (Ns (.aF 1 ks fl) o (i:Int))=some (dH o,[],_,_)) trivial ⟨(by first | exact ah rfl | exact ah (decide_eq_false (by omega))),trivial⟩ ⟨by rw [ho],rfl⟩
set_option maxHeartbeats 400000 in
theorem aat (l:List Bool) (fl:Bool) (hl:l.length≤1000000):Go.Am.C Tryz.prog 26 [.d (.aF 1 (l.map DV.bool) fl)] [] (fun r o=>r = .d (.str (mJ l))∧o=[]):=by
 have ok:=aH (l:=[]) .nil;refine bn (fn:=Tryz.f26) (body:=Rv) true (by kernel_rfl) (by kernel_rfl) (by kernel_rfl) ?_;have hk:=Qn l fl hl;generalize (.aF 1 (l.map DV.bool) fl:DV)=kd at *;refine WK.cZ ok 1000 0 [] [] [0,3,4] [] [] rfl (by kernel_rfl:aJ (bq []) 1000 0 _ _ _ _ (dz 20 [.d kd] [])=some (av Rv 0,Ns kd [] (0:Nat),_,_)) trivial trivial ?_;exact hk
theorem Qo (o:W) (i:Nat) (hq:mJ []=o):WK Tryz.prog 0 (av Rv 0) (Ns (.aF 0 [] true) o (i:Int)).den (Ny []):=by
 have ok:=aH (l:=[]) .nil;exact WK.fin ok 1000 0 [(8,aj false)] [] [(aj false,aj false)] rfl (by kernel_rfl:au (bq []) true _ 1000 0 _ _ (Ns (.aF 0 [] true) o (i:Int))=some (dH o,[],_,_)) trivial ⟨(by first | exact ah rfl | exact ah (decide_eq_false (by omega))),trivial⟩ ⟨by rw [hq],rfl⟩
set_option maxHeartbeats 400000 in
theorem XW:Go.Am.C Tryz.prog 26 [.d (.aF 0 [] true)] [] (fun r o=>r = .d (.str (mJ []))∧o=[]):=by
 have ok:=aH (l:=[]) .nil;refine bn (fn:=Tryz.f26) (body:=Rv) true (by kernel_rfl) (by kernel_rfl) (by kernel_rfl) ?_;have hk:=Qo [] 0 rfl;obtain ⟨kd,hkd⟩:∃kd:DV,.aF 0 [] true=kd:=⟨_,rfl⟩;rw [hkd] at hk ⊢;refine WK.cZ ok 1000 0 [] [] [0,3,4] [] [] rfl (by kernel_rfl:aJ (bq []) 1000 0 _ _ _ _ (dz 20 [.d kd] [])=some (av Rv 0,Ns kd [] (0:Nat),_,_)) trivial trivial ?_;exact hk
end Go.Proofs.YtjoefbioobdinaaGreatDoor
