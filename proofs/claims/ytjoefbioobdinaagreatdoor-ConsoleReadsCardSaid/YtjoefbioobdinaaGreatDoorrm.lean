/-
  Texts that the claim leans on: KH, KI, KJ, AmVh, AmRg, AmRh, N6, AmKr, N7, N2, N3.
-/
import Derived.Test.YtjoefbioobdinaaGreatDoorProg
import Derived.Test.YtjoefbioobdinaaGreatDoorrd
import Derived.Test.YtjoefbioobdinaaGreatDoorrh
import Derived.Test.YtjoefbioobdinaaGreatDoorrl
import Derived.Maps.RangeRun
import Derived.Lib.Builder
import Derived.Lib.UnsafeStr
import Derived.Lib.Hide
import Derived.RegionTactic
import Derived.WalkKit
import Derived.Laws.Externs
import Derived.MapKept
namespace Go.Proofs.YtjoefbioobdinaaGreatDoor
open Go.RowKit Am
open Go.aQ hiding cut intOf take split
set_option maxRecDepth 100000
set_option linter.unusedVariables false
set_option linter.unusedSimpArgs false
theorem Bw:∀s:W,(aQ.split s).length≤s.length+1∧∀w∈aQ.split s,w.length≤s.length
 | []=>⟨by simp [aQ.split],by simp [aQ.split]⟩
 | c::r=>by
   obtain ⟨h1,h2⟩:=Bw r;rw [oz];by_cases h:c=32
   ·rw [if_pos h];refine ⟨by simp only [List.length_cons];omega,fun w hw=>?_⟩;rcases List.mem_cons.1 hw with rfl | hw
    ·simp
    ·have:=h2 w hw;simp only [List.length_cons];omega
   ·rw [if_neg h];cases hs:aQ.split r with
    | nil=>exact absurd hs (pU r)
    | cons a b=>
      rw [hs] at h1 h2;refine ⟨by simp only [List.length_cons] at h1 ⊢;omega,fun w hw=>?_⟩;rcases List.mem_cons.1 hw with rfl | hw
      ·have:=h2 a (by simp);simp only [List.length_cons];omega
      ·have:=h2 w (by simp [hw]);simp only [List.length_cons];omega
theorem sM:∀(m:Nat) (ws:List W) (e:Er) (l:List Int),ws.length < m→nums gN m ws e l=none
 | 0,ws,e,l,h=>by omega
 | m+1,[],e,l,h=>rfl
 | m+1,w::r,e,l,h=>by
   have h:r.length < m:=by simp only [List.length_cons] at h;omega
   rw [nums];cases gN w with
   | none=>rfl
   | range=>exact sM m r _ _ h
   | is n=>exact sM m r _ _ h
theorem eB (a:aQ.Act) (e:Er) (rest:List W):((if rest≠[] then (({}:aQ.Act),Er.text) else if e = .ok then (a,.ok) else ({},e)).1,code (if rest≠[] then (({}:aQ.Act),Er.text) else if e = .ok then (a,.ok) else ({},e)).2)=kP a e rest:=by
 unfold kP;by_cases h:rest≠[]
 ·rw [if_pos h,if_pos h];rfl
 ·rw [if_neg h,if_neg h];by_cases h1:e = .ok
  ·rw [if_pos h1,if_pos h1];rfl
  ·rw [if_neg h1,if_neg h1]
theorem fP (f:W) (ws:List W) (m:Nat):(dQ (f::ws)).drop (m+1)=dQ (ws.drop m):=by
 show (ws.map DV.str).drop m=(ws.drop m).map DV.str
 rw [List.map_drop]
abbrev Dk (s f:W) (ws:List W) (k m:Nat):Prop:=∀ns e,nums gN m ws .ok []=some (ns,e,ws.drop m)→ns.length=m→WK Tryz.prog 0 (av gF 2) (ig (dQ (f::ws)) (k:Int) (m:Int) (DJ ns) (code e) (m:Int)).den (dJ s)
abbrev HR (s:W) (ws:List W) (k:Nat):Prop:=cO s=((doc gN k ws).1,code (doc gN k ws).2)
theorem dd2 (s f:W) (ws:List W) (hl:ws.length≤1000000) (hm:1≤ws.length) (hR:HR s ws 2):Dk s f ws 2 1:=by
 intro ns E hN hlen
 match ns,hlen with
 | [x],_=>
   refine dk2 s _ E (code E) rfl x 1 rfl (by rw [bf,List.length_cons];omega) (by rw [bf,List.length_cons];omega) _ (ws.drop 1) rfl (fP f ws 1) ?_;rw [hR];unfold doc;rw [show many 2=1 from rfl,hN]
   exact eB _ _ _
theorem aaE (s f:W) (ws:List W) (hl:ws.length≤1000000) (hm:1≤ws.length) (hR:HR s ws 10):Dk s f ws 10 1:=by
 intro ns E hN hlen
 match ns,hlen with
 | [x],_=>
   refine aaw s _ E (code E) rfl x 1 rfl (by rw [bf,List.length_cons];omega) (by rw [bf,List.length_cons];omega) _ (ws.drop 1) rfl (fP f ws 1) ?_;rw [hR];unfold doc;rw [show many 10=1 from rfl,hN]
   exact eB _ _ _
theorem dd3 (s f:W) (ws:List W) (hl:ws.length≤1000000) (hm:1≤ws.length) (hR:HR s ws 3):Dk s f ws 3 1:=by
 intro ns E hN hlen
 match ns,hlen with
 | [x],_=>
   refine dk3 s _ E (code E) rfl x 1 rfl (by rw [bf,List.length_cons];omega) (by rw [bf,List.length_cons];omega) _ (ws.drop 1) rfl (fP f ws 1) ?_;rw [hR];unfold doc;rw [show many 3=1 from rfl,hN]
   exact eB _ _ _
theorem dd4 (s f:W) (ws:List W) (hl:ws.length≤1000000) (hm:1≤ws.length) (hR:HR s ws 4):Dk s f ws 4 1:=by
 intro ns E hN hlen
 match ns,hlen with
 | [x],_=>
   refine dk4 s _ E (code E) rfl x 1 rfl (by rw [bf,List.length_cons];omega) (by rw [bf,List.length_cons];omega) _ (ws.drop 1) rfl (fP f ws 1) ?_;rw [hR];unfold doc;rw [show many 4=1 from rfl,hN]
   exact eB _ _ _
theorem dd5 (s f:W) (ws:List W) (hl:ws.length≤1000000) (hm:1≤ws.length) (hR:HR s ws 5):Dk s f ws 5 1:=by
 intro ns E hN hlen
 match ns,hlen with
 | [x],_=>
   refine dk5 s _ E (code E) rfl x 1 rfl (by rw [bf,List.length_cons];omega) (by rw [bf,List.length_cons];omega) _ (ws.drop 1) rfl (fP f ws 1) ?_;rw [hR];unfold doc;rw [show many 5=1 from rfl,hN]
   exact eB _ _ _
theorem aaF (s f:W) (ws:List W) (hl:ws.length≤1000000) (hm:1≤ws.length) (hR:HR s ws 12):Dk s f ws 12 1:=by
 intro ns E hN hlen
 match ns,hlen with
 | [x],_=>
   refine aax s _ E (code E) rfl x 1 rfl (by rw [bf,List.length_cons];omega) (by rw [bf,List.length_cons];omega) _ (ws.drop 1) rfl (fP f ws 1) ?_;rw [hR];unfold doc;rw [show many 12=1 from rfl,hN]
   exact eB _ _ _
theorem aaG (s f:W) (ws:List W) (hl:ws.length≤1000000) (hm:1≤ws.length) (hR:HR s ws 14):Dk s f ws 14 1:=by
 intro ns E hN hlen
 match ns,hlen with
 | [x],_=>
   refine aay s _ E (code E) rfl x 1 rfl (by rw [bf,List.length_cons];omega) (by rw [bf,List.length_cons];omega) _ (ws.drop 1) rfl (fP f ws 1) ?_;rw [hR];unfold doc;rw [show many 14=1 from rfl,hN]
   exact eB _ _ _
theorem dd8 (s f:W) (ws:List W) (hl:ws.length≤1000000) (hm:2≤ws.length) (hR:HR s ws 8):Dk s f ws 8 2:=by
 intro ns E hN hlen
 match ns,hlen with
 | [x,y],_=>
   refine dk8 s _ E (code E) rfl x y 2 rfl (by rw [bf,List.length_cons];omega) (by rw [bf,List.length_cons];omega) _ (ws.drop 2) rfl (fP f ws 2) ?_;rw [hR];unfold doc;rw [show many 8=2 from rfl,hN]
   exact eB _ _ _
theorem aaH (s f:W) (ws:List W) (hl:ws.length≤1000000) (hm:0≤ws.length) (hR:HR s ws 11):Dk s f ws 11 0:=by
 intro ns E hN hlen
 match ns,hlen with
 | [],_=>
   refine aaz s _ E (code E) rfl 0 0 rfl (by rw [bf,List.length_cons];omega) (by rw [bf,List.length_cons];omega) _ (ws.drop 0) rfl (fP f ws 0) ?_;rw [hR];unfold doc;rw [show many 11=0 from rfl,hN]
   exact eB _ _ _
theorem aaI (s f:W) (ws:List W) (hl:ws.length≤1000000) (hm:0≤ws.length) (hR:HR s ws 13):Dk s f ws 13 0:=by
 intro ns E hN hlen
 match ns,hlen with
 | [],_=>
   refine aaA s _ E (code E) rfl 0 0 rfl (by rw [bf,List.length_cons];omega) (by rw [bf,List.length_cons];omega) _ (ws.drop 0) rfl (fP f ws 0) ?_;rw [hR];unfold doc;rw [show many 13=0 from rfl,hN]
   exact eB _ _ _
theorem dd6 (s f:W) (ws:List W) (hl:ws.length≤1000000) (hm:3≤ws.length) (hR:HR s ws 6):Dk s f ws 6 3:=by
 intro ns E hN hlen
 match ns,hlen with
 | [x,y,z],_=>
   have hq:cO s=kP { kind:=6,n:=x,at_:=y,x:=z % 256 } (if z < 0∨z > 255 then .range else E) (ws.drop 3):=by
    rw [hR];unfold doc;rw [show many 6=3 from rfl,hN]
    exact eB _ _ _
   have h1:3+1≤(dQ (f::ws)).length:=by rw [bf,List.length_cons];omega
   have h2:(dQ (f::ws)).length≤2000000:=by rw [bf,List.length_cons];omega
   by_cases g1:z < 0
   ·rw [if_pos (.inl g1)] at hq;exact aaC s _ (code E) x y z 3 rfl h1 h2 _ (ws.drop 3) rfl (fP f ws 3) g1 _ hq
   ·by_cases g2:255 < z
    ·rw [if_pos (.inr g2)] at hq;exact aaD s _ (code E) x y z 3 rfl h1 h2 _ (ws.drop 3) rfl (fP f ws 3) g1 g2 _ hq
    ·rw [if_neg (by omega)] at hq;rw [show z % 256=IntKind.u8.wrap z from (IntKind.wrap_u8 z).symm] at hq
     exact aaB s _ E (code E) rfl x y z 3 rfl h1 h2 _ (ws.drop 3) rfl (fP f ws 3) g1 g2 hq
theorem dd7 (s f:W) (ws:List W) (hl:ws.length≤1000000) (hm:2≤ws.length) (hR:HR s ws 7):Dk s f ws 7 2:=by
 intro ns E hN hlen
 match ns,hlen with
 | [x,y],_=>
   refine dk7 s _ E (code E) rfl x y 2 rfl (by rw [bf,List.length_cons];omega) (by rw [bf,List.length_cons];omega) _ (ws.drop 2) rfl (fP f ws 2) ?_;rw [hR];unfold doc;rw [show many 7=2 from rfl,hN]
   generalize ws.drop 2=rest
   match rest with
   | []=>rfl
   | [w]=>
     unfold TW;simp only;cases jd w with
     | none=>rfl
     | some v=>exact eB _ _ _
   | _::_::_=>rfl
theorem dd9 (s f:W) (ws:List W) (hl:ws.length≤1000000) (hwl:∀w∈ws,w.length≤1000000) (hm:1≤ws.length) (hR:HR s ws 9):Dk s f ws 9 1:=by
 intro ns E hN hlen
 match ns,hlen with
 | [x],_=>
   refine dk9 s _ E (code E) rfl x 1 rfl (by rw [bf,List.length_cons];omega) (by rw [bf,List.length_cons];omega) _ (ws.drop 1) rfl (fP f ws 1) (fun w hw=>hwl w (List.mem_of_mem_drop hw)) ?_;rw [hR];unfold doc;rw [show many 9=1 from rfl,hN]
   generalize ws.drop 1=rest
   match rest with
   | []=>exact eB _ _ _
   | [w]=>
     unfold TY;simp only;by_cases h1:w=[]
     ·simp only [if_pos h1];rfl
     ·simp only [if_neg h1];by_cases h2:gM w=true
      ·simp only [if_pos h2];exact eB _ _ _
      ·simp only [if_neg h2];rfl
   | _::_::_=>exact eB _ _ _
abbrev Hu:List DV:=[.int .i64 0,.int .i64 0,.int .i64 1,.int .i64 1,.int .i64 1,.int .i64 1,.int .i64 3,.int .i64 2,.int .i64 2,.int .i64 1,.int .i64 1,.int .i64 0,.int .i64 1,.int .i64 0,.int .i64 1]
theorem T9:∀k:Nat,k < 15→Hu.getD k DV.aG = .int .i64 (many k:Nat):=by
 intro k hk
 match k,hk with
 | 0,_=>rfl
 | 1,_=>rfl
 | 2,_=>rfl
 | 3,_=>rfl
 | 4,_=>rfl
 | 5,_=>rfl
 | 6,_=>rfl
 | 7,_=>rfl
 | 8,_=>rfl
 | 9,_=>rfl
 | 10,_=>rfl
 | 11,_=>rfl
 | 12,_=>rfl
 | 13,_=>rfl
 | 14,_=>rfl
 | k+15,h=>omega
theorem Qu (k:Nat):many k≤3:=by unfold many;split<;>omega
set_option maxHeartbeats 400000 in
theorem vN (s f:W) (ws:List W) (k:Nat) (hk:2≤k∧k≤14) (hl:ws.length≤1000000) (hwl:∀w∈ws,w.length≤1000000) (hR:HR s ws k) (hD:many k≤ws.length→Dk s f ws k (many k)):WK Tryz.prog 0 (av gF 0) (DW s (dQ (f::ws)) (k:Int) (15:Nat)).den (dJ s):=by
 have ok:=aH fO;have hm3:=Qu k;have ht:=T9 k (by omega)
 have hnone:nums gN (many k) ws .ok []=none→cO s=({},6):=fun h=>by
  rw [hR];unfold doc;rw [h];rfl
 have hlen:(dQ (f::ws)).length=ws.length+1:=by rw [bf,List.length_cons]
 by_cases hm:many k≤ws.length
 ·have hloop:=NK s f ws (k:Int) (many k) hm hm3 hwl hl hnone (hD hm);rw [NJ] at hloop;have hloop:WK Tryz.prog 0 (av gF 2) (ig (dQ (f::ws)) (k:Int) (many k:Nat) [] 0 (0:Nat)).den (dJ s):=hloop;generalize dQ (f::ws)=l at *;obtain ⟨mn,hmn⟩:∃mn:Int,((many k:Nat):Int)=mn:=⟨_,rfl⟩;obtain ⟨kd,hkd⟩:∃kd:Int,(k:Int)=kd:=⟨_,rfl⟩;have hkt:kd.toNat=k:=by rw [←hkd,Int.toNat_natCast]
  rw [hmn,←hkt] at ht;rw [hmn,hkd] at hloop;rw [hkd];have wm:IntKind.i64.wrap (1+mn)=1+mn:=bC _ (by omega);have c1:decide (0≤kd∧kd < (Nat.cast (R:=Int) Hu.length))=true:=decide_eq_true ⟨by omega,by show kd < 15;omega⟩;have c2:decide (kd.toNat < Hu.length)=true:=decide_eq_true (by show kd.toNat < 15;omega);have c3:(Hu.getD kd.toNat DV.aG).gI=true:=by rw [ht];rfl
  have g0:(kd==0)=false:=beq_false_of_ne (by omega);have g1:(kd==1)=false:=beq_false_of_ne (by omega);have gm:decide ((Nat.cast (R:=Int) l.length) < IntKind.i64.wrap (1+mn))=false:=by rw [wm];exact decide_eq_false (by omega)
  refine WK.cZ ok 1000 0 [(20,aj false),(37,aA mn),(40,aj false),(44,aj true),(50,aj false),(56,aj false),(66,aj false)] [(9,250,iT,1)] [2,4,5,7,9,10,11] [decide (0≤kd∧kd < ([aI (0),aI (0),aI (1),aI (1),aI (1),aI (1),aI (3),aI (2),aI (2),aI (1),aI (1),aI (0),aI (1),aI (0),aI (1)].length:Int)),decide (kd.toNat < [aI (0),aI (0),aI (1),aI (1),aI (1),aI (1),aI (3),aI (2),aI (2),aI (1),aI (1),aI (0),aI (1),aI (0),aI (1)].length),([aI (0),aI (0),aI (1),aI (1),aI (1),aI (1),aI (3),aI (2),aI (2),aI (1),aI (1),aI (0),aI (1),aI (0),aI (1)].getD kd.toNat DV.aG).gI] [(aj false,aj false),(RV.d ([aI (0),aI (0),aI (1),aI (1),aI (1),aI (1),aI (3),aI (2),aI (2),aI (1),aI (1),aI (0),aI (1),aI (0),aI (1)].getD kd.toNat DV.aG),aA mn),(aj (kd==0),aj false),(aj (decide (1 < kd)),aj true),(aj (decide ((l.length:Int) < IntKind.i64.wrap (1+mn))),aj false),(aj (kd==1),aj false),(aj (kd==1),aj false)] rfl (by kernel_rfl:aJ (bq iW) 1000 0 _ _ _ _ (DW s l kd (15:Nat))=some (av gF 2,ig l kd mn [] 0 (0:Nat),_,_)) (by refine ⟨?_,?_,?_,trivial⟩<;>(first | rfl | exact c1 | exact c2 | exact c3)) (by refine ⟨?_,?_,?_,?_,?_,?_,?_,trivial⟩<;>(first | exact ah rfl | exact .of_eq (by rw [ht]) | exact .of_eq (by rw [e1]) | exact ah g0 | exact ah gm | exact ah g1 | exact ah gl | exact ah (decide_eq_true (by omega)) | exact ah (decide_eq_false (by omega)))) ?_
  exact hloop
 ·have hq:=hnone (sM _ _ _ _ (by omega));generalize dQ (f::ws)=l at *;obtain ⟨mn,hmn⟩:∃mn:Int,((many k:Nat):Int)=mn:=⟨_,rfl⟩;obtain ⟨kd,hkd⟩:∃kd:Int,(k:Int)=kd:=⟨_,rfl⟩;have hkt:kd.toNat=k:=by rw [←hkd,Int.toNat_natCast]
  rw [hmn,←hkt] at ht;rw [hkd];have wm:IntKind.i64.wrap (1+mn)=1+mn:=bC _ (by omega);have c1:decide (0≤kd∧kd < (Nat.cast (R:=Int) Hu.length))=true:=decide_eq_true ⟨by omega,by show kd < 15;omega⟩;have c2:decide (kd.toNat < Hu.length)=true:=decide_eq_true (by show kd.toNat < 15;omega);have c3:(Hu.getD kd.toNat DV.aG).gI=true:=by rw [ht];rfl
  have g0:(kd==0)=false:=beq_false_of_ne (by omega);have gm:decide ((Nat.cast (R:=Int) l.length) < IntKind.i64.wrap (1+mn))=true:=by rw [wm];exact decide_eq_true (by omega)
  exact WK.fin ok 1000 0 [(20,aj false),(37,aA mn),(40,aj false),(44,aj true),(50,aj true)] [decide (0≤kd∧kd < ([aI (0),aI (0),aI (1),aI (1),aI (1),aI (1),aI (3),aI (2),aI (2),aI (1),aI (1),aI (0),aI (1),aI (0),aI (1)].length:Int)),decide (kd.toNat < [aI (0),aI (0),aI (1),aI (1),aI (1),aI (1),aI (3),aI (2),aI (2),aI (1),aI (1),aI (0),aI (1),aI (0),aI (1)].length),([aI (0),aI (0),aI (1),aI (1),aI (1),aI (1),aI (3),aI (2),aI (2),aI (1),aI (1),aI (0),aI (1),aI (0),aI (1)].getD kd.toNat DV.aG).gI] [(aj false,aj false),(RV.d ([aI (0),aI (0),aI (1),aI (1),aI (1),aI (1),aI (3),aI (2),aI (2),aI (1),aI (1),aI (0),aI (1),aI (0),aI (1)].getD kd.toNat DV.aG),aA mn),(aj (kd==0),aj false),(aj (decide (1 < kd)),aj true),(aj (decide ((l.length:Int) < IntKind.i64.wrap (1+mn))),aj true)] rfl (by kernel_rfl:au (bq iW) true _ 1000 0 _ _ (DW s l kd (15:Nat))=some (RV.aZ [RV.d (DV.agg [aI (0),aI (0),aI (0),aI (0),aU (0),DV.str [],DV.aF 0 [] true]),aA (6)],[],_,_)) (by refine ⟨?_,?_,?_,trivial⟩<;>(first | rfl | exact c1 | exact c2 | exact c3)) (by refine ⟨?_,?_,?_,?_,?_,trivial⟩<;>(first | exact ah rfl | exact .of_eq (by rw [ht]) | exact .of_eq (by rw [e1]) | exact ah g0 | exact ah gm | exact ah g1 | exact ah gl | exact ah (decide_eq_true (by omega)) | exact ah (decide_eq_false (by omega)))) ⟨by rw [hq];rfl,rfl⟩
theorem X0 (s:W) (l:List DV) (hq:cO s=({},6)):WK Tryz.prog 0 (av gF 0) (DW s l (0:Nat) (15:Nat)).den (dJ s):=by
 have ok:=aH fO;exact WK.fin ok 1000 0 [(20,aj false)] [true,true,true] [(aj false,aj false)] rfl (by kernel_rfl:au (bq iW) true _ 1000 0 _ _ (DW s l (0:Nat) (15:Nat))=some (RV.aZ [RV.d (DV.agg [aI (0),aI (0),aI (0),aI (0),aU (0),DV.str [],DV.aF 0 [] true]),aA (6)],[],_,_)) (by refine ⟨?_,?_,?_,trivial⟩<;>(first | rfl | exact c1)) ⟨(by first | exact ah rfl | exact .of_eq (by rw [e1]) | exact ah (decide_eq_true (by omega)) | exact ah (decide_eq_false (by omega))),trivial⟩ ⟨by rw [hq];rfl,rfl⟩
set_option maxHeartbeats 400000 in
theorem done (s:W) (l:List DV) (hs:s.length≤1000000) (h4:2≤l.length→4≤s.length) (hq:cO s=if l.length < 2∨(10:UInt8)∈s.drop 4 then ({},6) else ({ kind:=1,text:=s.drop 4 },0)):WK Tryz.prog 0 (av gF 0) (DW s l (1:Nat) (15:Nat)).den (dJ s):=by
 have ok:=aH fO;by_cases h2:l.length < 2
 ·rw [if_pos (.inl h2)] at hq;exact WK.fin ok 1000 0 [(20,aj false),(40,aj false),(44,aj false),(56,aj true),(60,aj true)] [true,true,true] [(aj false,aj false),(aj false,aj false),(aj false,aj false),(aj true,aj true),(aj (decide ((l.length:Int) < 2)),aj true)] rfl (by kernel_rfl:au (bq iW) true _ 1000 0 _ _ (DW s l (1:Nat) (15:Nat))=some (RV.aZ [RV.d (DV.agg [aI (0),aI (0),aI (0),aI (0),aU (0),DV.str [],DV.aF 0 [] true]),aA (6)],[],_,_)) (by refine ⟨?_,?_,?_,trivial⟩<;>(first | rfl | exact c1)) (by refine ⟨?_,?_,?_,?_,?_,trivial⟩<;>(first | exact ah rfl | exact .of_eq (by rw [e1]) | exact ah (decide_eq_true (by omega)) | exact ah (decide_eq_false (by omega)))) ⟨by rw [hq];rfl,rfl⟩
 ·have h4:=h4 (by omega);have c1:decide ((0:Int)≤4∧4≤(Nat.cast (R:=Int) s.length))=true:=decide_eq_true (by omega);obtain ⟨tx,htx⟩:∃tx,s.drop 4=tx:=⟨_,rfl⟩;have e1:bM s (some 4) none=tx:=htx;rw [htx] at hq;have hl:=NH s tx (by rw [←htx,List.length_drop];omega) (fun h=>by rw [hq,if_pos (.inr h)]) (fun h=>by rw [hq,if_neg (by intro g;rcases g with g | g;exact h2 g;exact h g)]);refine WK.cZ ok 1000 0 [(20,aj false),(40,aj false),(44,aj false),(56,aj true),(60,aj false),(68,dH tx)] [] [2,5,8] [true,true,true,decide ((0:Int)≤4∧(4:Int)≤((List.length s:Nat):Int))] [(aj false,aj false),(aj false,aj false),(aj false,aj false),(aj true,aj true),(aj (decide ((l.length:Int) < 2)),aj false),(dH (bM s (Option.some (4)) Option.none),dH tx)] rfl (by kernel_rfl:aJ (bq iW) 1000 0 _ _ _ _ (DW s l (1:Nat) (15:Nat))=some (av gF 1,TU tx (0:Nat),_,_)) (by refine ⟨?_,?_,?_,?_,trivial⟩<;>(first | rfl | exact c1)) (by refine ⟨?_,?_,?_,?_,?_,?_,trivial⟩<;>(first | exact ah rfl | exact .of_eq (by rw [e1]) | exact ah (decide_eq_true (by omega)) | exact ah (decide_eq_false (by omega)))) ?_
  exact hl
theorem aaJ (s f:W) (ws:List W) (hs:s.length≤999999) (hsp:aQ.split s=f::ws):WK Tryz.prog 0 (av gF 0) (DW s (dQ (f::ws)) (kindOf f:Nat) (15:Nat)).den (dJ s):=by
 have hle:=nQ f;obtain ⟨b1,b2⟩:=Bw s;rw [hsp] at b1 b2;have hl:ws.length≤1000000:=by simp only [List.length_cons] at b1;omega
 have hwl:∀w∈ws,w.length≤1000000:=fun w hw=>by have:=b2 w (by simp [hw]);omega
 have hP:∀k,kindOf f=k+2→HR s ws (k+2):=fun k h=>by
  unfold HR cO;rw [hsp];simp only [List.headD_cons,List.tail_cons];rw [h];rfl
 have h0:kindOf f=0→cO s=({},6):=fun h=>by
  unfold cO;rw [hsp];simp only [List.headD_cons];rw [h];rfl
 have h1:kindOf f=1→cO s=if (dQ (f::ws)).length < 2∨(10:UInt8)∈s.drop 4 then ({},6) else ({ kind:=1,text:=s.drop 4 },0):=fun h=>by
  unfold cO;rw [hsp,bf];simp only [List.headD_cons];rw [h];rfl
 have h4:kindOf f=1→2≤(dQ (f::ws)).length→4≤s.length:=fun h hl2=>by
  rw [bf] at hl2;have hc:=jC s;rw [hsp] at hc;cases hm:(aQ.cut s).2.2 with
  | false=>
    rw [hm] at hc;simp only [Bool.false_eq_true,if_false] at hc;injection hc with _ hc;rw [hc] at hl2;simp at hl2
  | true=>
    have ht:=yV s hm;injection hc with hc1 _;rw [←hc1,qI h (by decide)] at ht;rw [ht];simp [kw]
 generalize kindOf f=k at *
 match k,hle with
 | 0,_=>exact X0 s _ (h0 rfl)
 | 1,_=>exact done s _ (by omega) (h4 rfl) (h1 rfl)
 | 2,_=>exact vN s f ws 2 (by omega) hl hwl (hP 0 rfl) (fun hm=>dd2 s f ws hl hm (hP 0 rfl))
 | 3,_=>exact vN s f ws 3 (by omega) hl hwl (hP 1 rfl) (fun hm=>dd3 s f ws hl hm (hP 1 rfl))
 | 4,_=>exact vN s f ws 4 (by omega) hl hwl (hP 2 rfl) (fun hm=>dd4 s f ws hl hm (hP 2 rfl))
 | 5,_=>exact vN s f ws 5 (by omega) hl hwl (hP 3 rfl) (fun hm=>dd5 s f ws hl hm (hP 3 rfl))
 | 6,_=>exact vN s f ws 6 (by omega) hl hwl (hP 4 rfl) (fun hm=>dd6 s f ws hl hm (hP 4 rfl))
 | 7,_=>exact vN s f ws 7 (by omega) hl hwl (hP 5 rfl) (fun hm=>dd7 s f ws hl hm (hP 5 rfl))
 | 8,_=>exact vN s f ws 8 (by omega) hl hwl (hP 6 rfl) (fun hm=>dd8 s f ws hl hm (hP 6 rfl))
 | 9,_=>exact vN s f ws 9 (by omega) hl hwl (hP 7 rfl) (fun hm=>dd9 s f ws hl hwl hm (hP 7 rfl))
 | 10,_=>exact vN s f ws 10 (by omega) hl hwl (hP 8 rfl) (fun hm=>aaE s f ws hl hm (hP 8 rfl))
 | 11,_=>exact vN s f ws 11 (by omega) hl hwl (hP 9 rfl) (fun hm=>aaH s f ws hl hm (hP 9 rfl))
 | 12,_=>exact vN s f ws 12 (by omega) hl hwl (hP 10 rfl) (fun hm=>aaF s f ws hl hm (hP 10 rfl))
 | 13,_=>exact vN s f ws 13 (by omega) hl hwl (hP 11 rfl) (fun hm=>aaI s f ws hl hm (hP 11 rfl))
 | 14,_=>exact vN s f ws 14 (by omega) hl hwl (hP 12 rfl) (fun hm=>aaG s f ws hl hm (hP 12 rfl))
 | k+15,h=>omega
set_option maxHeartbeats 400000 in
theorem Rw (s f:W) (ws:List W) (kd:Int) (i:Nat) (h1:1≤i∧i≤14) (b:Bool) (hb:(kw i==f)=b)
 (hn:WK Tryz.prog 0 (av gF 0) (DW s (dQ (f::ws)) (if b then (i:Int) else kd) ((i+1:Nat):Int)).den (dJ s)):WK Tryz.prog 0 (av gF 0) (DW s (dQ (f::ws)) kd (i:Int)).den (dJ s):=by
 have ok:=aH fO;obtain ⟨w,hw⟩:∃w,kw i=w:=⟨_,rfl⟩;rw [hw] at hb
 have vw:iI (.aN (ng.getD (Nat.cast (R:=Int) i).toNat DV.aG) 0) (.aN (.str w) 0):=.of_eq (by
  rw [Int.toNat_natCast,←hw];unfold ng;rw [List.getD,List.getElem?_map,List.getElem?_range (by omega)];rfl)
 obtain ⟨l,hl⟩:∃l,dQ (f::ws)=l:=⟨_,rfl⟩;have vf:iI (.aN (l.getD (Int.toNat 0) DV.aG) 0) (.aN (.str f) 0):=.of_eq (by rw [←hl];rfl);have hlen:l.length=ws.length+1:=by rw [←hl,bf,List.length_cons]
 have c1:decide ((0:Int)≤(Nat.cast (R:=Int) i)∧(Nat.cast (R:=Int) i) < (Nat.cast (R:=Int) ng.length))=true:=decide_eq_true ⟨by omega,by show (Nat.cast (R:=Int) i) < 15;omega⟩;have c2:decide ((0:Int)≤0∧0 < (Nat.cast (R:=Int) l.length))=true:=decide_eq_true (by omega);have vs:=dB (i:=i) (by omega);rw [hl] at hn ⊢;cases b with
 | true=>
   simp only [if_true] at hn;refine WK.cZ ok 1000 0 [(20,aj true),(25,RV.aN (DV.str w) 0),(28,RV.aN (DV.str f) 0),(30,aj true),(22,aA ((i+1:Nat):Int))] [] [0,2,4,5,6] [decide (0≤(i:Int)∧(i:Int) < (Go.Proofs.YtjoefbioobdinaaGreatDoor.ng.length:Int)),decide ((0:Int)≤0∧(0:Int) < (l.length:Int))] [(aj (decide ((i:Int)≤14)),aj true),(RV.aN (Go.Proofs.YtjoefbioobdinaaGreatDoor.ng.getD (i:Int).toNat DV.aG) 0,RV.aN (DV.str w) 0),(RV.aN (l.getD (Int.toNat (0)) DV.aG) 0,RV.aN (DV.str f) 0),(aj (w==f),aj true),(aA (IntKind.i64.wrap ((i:Int)+1)),aA ((i+1:Nat):Int))] rfl (by kernel_rfl:aJ (bq iW) 1000 0 _ _ _ _ (DW s l kd (i:Int))=some (av gF 0,DW s l (i:Int) ((i+1:Nat):Int),_,_)) (by refine ⟨?_,?_,trivial⟩<;>(first | rfl | exact c1 | exact c2)) (by refine ⟨?_,?_,?_,?_,?_,trivial⟩<;>(first | exact ah rfl | exact vw | exact vf | exact vs | exact ah hb | exact .of_eq (by rw [e1]) | exact ah (decide_eq_true (by omega)) | exact ah (decide_eq_false (by omega)))) ?_
   exact hn
 | false=>
   simp only [Bool.false_eq_true,if_false] at hn;refine WK.cZ ok 1000 0 [(20,aj true),(25,RV.aN (DV.str w) 0),(28,RV.aN (DV.str f) 0),(30,aj false),(22,aA ((i+1:Nat):Int))] [] [0,2,4,5,6] [decide (0≤(i:Int)∧(i:Int) < (Go.Proofs.YtjoefbioobdinaaGreatDoor.ng.length:Int)),decide ((0:Int)≤0∧(0:Int) < (l.length:Int))] [(aj (decide ((i:Int)≤14)),aj true),(RV.aN (Go.Proofs.YtjoefbioobdinaaGreatDoor.ng.getD (i:Int).toNat DV.aG) 0,RV.aN (DV.str w) 0),(RV.aN (l.getD (Int.toNat (0)) DV.aG) 0,RV.aN (DV.str f) 0),(aj (w==f),aj false),(aA (IntKind.i64.wrap ((i:Int)+1)),aA ((i+1:Nat):Int))] rfl (by kernel_rfl:aJ (bq iW) 1000 0 _ _ _ _ (DW s l kd (i:Int))=some (av gF 0,DW s l kd ((i+1:Nat):Int),_,_)) (by refine ⟨?_,?_,trivial⟩<;>(first | rfl | exact c1 | exact c2)) (by refine ⟨?_,?_,?_,?_,?_,trivial⟩<;>(first | exact ah rfl | exact vw | exact vf | exact vs | exact ah hb | exact .of_eq (by rw [e1]) | exact ah (decide_eq_true (by omega)) | exact ah (decide_eq_false (by omega)))) ?_
   exact hn
def dK (s:W) (l:List DV) (K k:Nat):iU:=DW s l (upTo K k:Nat) (k:Int)
theorem NM (s:W) (l:List DV) (K k:Nat):dK s l K k=DW s l (upTo K k:Nat) (k:Int):=rfl
theorem X3 (s f:W) (ws:List W) (hs:s.length≤999999) (hsp:aQ.split s=f::ws):WK Tryz.prog 0 (av gF 0) (dK s (dQ (f::ws)) (kindOf f) 1).den (dJ s):=by
 refine WK.rec' (dK s (dQ (f::ws)) (kindOf f)) (fun k=>1≤k∧k≤15) (fun k=>15-k) ?_ 1 ⟨by omega,by omega⟩
 rintro k ⟨h1,h2⟩ ih
 have hle:=nQ f;rw [NM];by_cases h15:k=15
 ·have hn:=aaJ s f ws hs hsp;have e:upTo (kindOf f) k=kindOf f:=by unfold upTo;rw [if_pos (by omega)]
  rw [e,h15];exact hn
 ·have hn:=ih (k+1) ⟨by omega,by omega⟩ (by omega);rw [NM] at hn;by_cases hk:kindOf f=k
  ·have e1:upTo (kindOf f) (k+1)=k:=by unfold upTo;rw [if_pos (by omega),hk]
   have hb:(kw k==f)=true:=by rw [qI hk (by omega)];simp
   rw [e1] at hn;exact Rw s f ws _ k ⟨h1,by omega⟩ true hb hn
  ·have e1:upTo (kindOf f) (k+1)=upTo (kindOf f) k:=by
    unfold upTo;by_cases g:kindOf f < k
    ·rw [if_pos g,if_pos (by omega)]
    ·rw [if_neg g,if_neg (by omega)]
   have hb:(kw k==f)=false:=beq_false_of_ne fun h=>hk (by
    rw [←h];exact Jg k (by omega) h1)
   rw [e1] at hn;exact Rw s f ws _ k ⟨h1,by omega⟩ false hb hn
set_option maxHeartbeats 400000 in
theorem Qv (s:W) (hs:s.length≤999999):Go.Am.C Tryz.prog 8 [.d (.str s)] [] (fun q o=>q=OI (cO s)∧o=[]):=by
 have ok:=aH fO;refine bn (fn:=Tryz.f8) (body:=gF) true (by kernel_rfl) (by kernel_rfl) (by kernel_rfl) ?_;have c1:decide (s.length≤1000000)=true:=decide_eq_true (by omega);cases hsp:aQ.split s with
 | nil=>exact absurd hsp (pU s)
 | cons f ws=>
   have hn:=X3 s f ws hs hsp;rw [NM] at hn;have e0:upTo (kindOf f) 1=0:=by unfold upTo;split<;>omega
   rw [e0] at hn;obtain ⟨l,hl⟩:∃l,dQ (f::ws)=l:=⟨_,rfl⟩;have e1:(aQ.split s).map DV.str=l:=by rw [hsp];exact hl
   rw [hl] at hn;refine WK.cZ ok 1000 0 [(17,RV.d (DV.aF 1 l false))] [] [0,2,4,5,6] [decide (List.length s≤1000000)] [(RV.d (DV.aF 1 (List.map DV.str (Go.aQ.split s)) false),RV.d (DV.aF 1 l false))] rfl (by kernel_rfl:aJ (bq iW) 1000 0 _ _ _ _ (dz 254 [.d (.str s)] [])=some (av gF 0,DW s l (0:Nat) (1:Nat),_,_)) ⟨(by first | rfl | exact c1 | exact c2),trivial⟩ ⟨(by first | exact ah rfl | exact vw | exact vf | exact vs | exact ah hb | exact .of_eq (by rw [e1]) | exact ah (decide_eq_true (by omega)) | exact ah (decide_eq_false (by omega))),trivial⟩ ?_;exact hn
def Ua:DV→Option (RV×List Bool)
 | .str s=>some (OI (cO s),[decide (s.length≤999999)])
 | _=>none
theorem Qw:bY Tryz.prog 8 (wK Ua):=by
 refine kR fun x y c hg hc=>?_;unfold Ua at hg;split at hg
 ·rename_i s;simp only [Option.some.injEq,Prod.mk.injEq] at hg;obtain ⟨rfl,rfl⟩:=hg;exact Qv s (of_decide_eq_true (hc _ (by simp:decide (s.length≤999999)∈[decide (s.length≤999999)])))
 ·cases hg
noncomputable abbrev sqC:Code:=eG Tryz.f9
def KL:DV→List Bool
 | .aF 1 ks _=>ks.map Zq
 | _=>[]
def sN:DV→Bool
 | .aF 1 ks _=>ks.all Qp&&decide (ks.length≤1000000)
 | .aF 0 [] true=>true
 | _=>false
def Zr:DV→Option (DV×List Bool):=fun d=>some (.str (mJ (KL d)),[sN d])
noncomputable def Rx:List (Nat×kZ):=[(49,e1 Zr),(26,e1 Zr)]
abbrev ni (kd nd n a x:Int) (tx:W) (kp:DV):DV:=.agg [.int .i64 kd,.int .i64 nd,.int .i64 n,.int .i64 a,.int .u8 x,.str tx,kp]
def Kh:DV→DV→Bool
 | .agg [.int .i64 kd,.int .i64 nd,.int .i64 n,.int .i64 a,.int .u8 x,.str tx,kp],.agg [.int .i64 qJ,.int .i64 qW,.int .i64 n2,.int .i64 a2,.int .u8 x2,.str uz,sS]=>
   kd==qJ&&(nd==qW&&(n==n2&&(a==a2&&(x==x2&&(tx==uz&&mJ (KL kp)==mJ (KL sS))))))
 | _,_=>false
def Zt:DV→DV
 | .agg [.int .i64 _,.int .i64 _,.int .i64 _,.int .i64 _,.int .u8 _,.str _,kp]=>kp
 | _=>.aG
def isA:DV→Bool
 | .agg [.int .i64 _,.int .i64 _,.int .i64 _,.int .i64 _,.int .u8 _,.str _,_]=>true
 | _=>false
def smE:DV→DV→Option (DV×List Bool):=fun x y=>some (.bool (Kh x y),[isA x,isA y,sN (Zt x),sN (Zt y)])
theorem Ry {f:Nat} (h1:∀(l:List Bool) (fl:Bool),l.length≤1000000→Go.Am.C Tryz.prog f [.d (.aF 1 (l.map DV.bool) fl)] [] (fun r o=>r = .d (.str (mJ l))∧o=[])) (h0:Go.Am.C Tryz.prog f [.d (.aF 0 [] true)] [] (fun r o=>r = .d (.str (mJ []))∧o=[])):bY Tryz.prog f (e1 Zr):=by
 refine II fun x y c hg hc=>?_;unfold Zr at hg;simp only [Option.some.injEq,Prod.mk.injEq] at hg;obtain ⟨rfl,rfl⟩:=hg;have h:=hc (sN x) (by simp);unfold sN at h;split at h
 ·rename_i ks fl;rw [Bool.and_eq_true] at h;have h3:=h1 (ks.map Zq) fl (by rw [List.length_map];exact of_decide_eq_true h.2);rw [NA h.1] at h3;exact h3
 ·exact h0
 ·cases h
theorem Ub:eZ Tryz.prog Rx:=.cons (Ry aau XY) (.cons (Ry aat XW) .nil)
theorem Fv {d:DV} (h:isA d=true):∃kd nd n a x tx kp,d=ni kd nd n a x tx kp:=by
 unfold isA at h;split at h
 ·exact ⟨_,_,_,_,_,_,_,rfl⟩
 ·cases h
set_option maxHeartbeats 400000 in
theorem aaK (kd nd n a x qJ qW n2 a2 x2:Int) (tx uz:W) (kp sS:DV) (h1:sN kp=true) (h2:sN sS=true):Go.Am.C Tryz.prog 9 [.d (ni kd nd n a x tx kp),.d (ni qJ qW n2 a2 x2 uz sS)] [] (fun r o=>r = .d (.bool (Kh (ni kd nd n a x tx kp) (ni qJ qW n2 a2 x2 uz sS)))∧o=[]):=by
 have ok:=aH Ub;refine bn (fn:=Tryz.f9) (body:=sqC) true (by kernel_rfl) (by kernel_rfl) (by kernel_rfl) ?_;have hb:Kh (ni kd nd n a x tx kp) (ni qJ qW n2 a2 x2 uz sS)=(kd==qJ&&(nd==qW&&(n==n2&&(a==a2&&(x==x2&&(tx==uz&&mJ (KL kp)==mJ (KL sS))))))):=rfl;cases f0:(kd==qJ) with
 | false=>
   have hq:Kh (ni kd nd n a x tx kp) (ni qJ qW n2 a2 x2 uz sS)=false:=by rw [hb,f0];rfl
   exact WK.fin ok 1000 0 [(9,aj false)] [] [(aj (kd==qJ),aj false)] rfl (by kernel_rfl:au (bq Rx) true _ 1000 0 _ _ (dz 54 [.d (ni kd nd n a x tx kp),.d (ni qJ qW n2 a2 x2 uz sS)] [])=some (aj false,[],_,_)) trivial ⟨(by first | exact ah rfl | exact ah f0 | exact ah f1 | exact ah f2 | exact ah f3 | exact ah f4 | exact ah f5 | exact ah f6),trivial⟩ ⟨by rw [hq],rfl⟩
 | true=>
   cases f1:(nd==qW) with
   | false=>
     have hq:Kh (ni kd nd n a x tx kp) (ni qJ qW n2 a2 x2 uz sS)=false:=by rw [hb,f0,f1];rfl
     exact WK.fin ok 1000 0 [(9,aj true),(15,aj false)] [] [(aj (kd==qJ),aj true),(aj (nd==qW),aj false)] rfl (by kernel_rfl:au (bq Rx) true _ 1000 0 _ _ (dz 54 [.d (ni kd nd n a x tx kp),.d (ni qJ qW n2 a2 x2 uz sS)] [])=some (aj false,[],_,_)) trivial (by refine ⟨?_,?_,trivial⟩<;>(first | exact ah rfl | exact ah f0 | exact ah f1 | exact ah f2 | exact ah f3 | exact ah f4 | exact ah f5 | exact ah f6)) ⟨by rw [hq],rfl⟩
   | true=>
     cases f2:(n==n2) with
     | false=>
       have hq:Kh (ni kd nd n a x tx kp) (ni qJ qW n2 a2 x2 uz sS)=false:=by rw [hb,f0,f1,f2];rfl
       exact WK.fin ok 1000 0 [(9,aj true),(15,aj true),(22,aj false)] [] [(aj (kd==qJ),aj true),(aj (nd==qW),aj true),(aj (n==n2),aj false)] rfl (by kernel_rfl:au (bq Rx) true _ 1000 0 _ _ (dz 54 [.d (ni kd nd n a x tx kp),.d (ni qJ qW n2 a2 x2 uz sS)] [])=some (aj false,[],_,_)) trivial (by refine ⟨?_,?_,?_,trivial⟩<;>(first | exact ah rfl | exact ah f0 | exact ah f1 | exact ah f2 | exact ah f3 | exact ah f4 | exact ah f5 | exact ah f6)) ⟨by rw [hq],rfl⟩
     | true=>
       cases f3:(a==a2) with
       | false=>
         have hq:Kh (ni kd nd n a x tx kp) (ni qJ qW n2 a2 x2 uz sS)=false:=by rw [hb,f0,f1,f2,f3];rfl
         exact WK.fin ok 1000 0 [(9,aj true),(15,aj true),(22,aj true),(29,aj false)] [] [(aj (kd==qJ),aj true),(aj (nd==qW),aj true),(aj (n==n2),aj true),(aj (a==a2),aj false)] rfl (by kernel_rfl:au (bq Rx) true _ 1000 0 _ _ (dz 54 [.d (ni kd nd n a x tx kp),.d (ni qJ qW n2 a2 x2 uz sS)] [])=some (aj false,[],_,_)) trivial (by refine ⟨?_,?_,?_,?_,trivial⟩<;>(first | exact ah rfl | exact ah f0 | exact ah f1 | exact ah f2 | exact ah f3 | exact ah f4 | exact ah f5 | exact ah f6)) ⟨by rw [hq],rfl⟩
       | true=>
         cases f4:(x==x2) with
         | false=>
           have hq:Kh (ni kd nd n a x tx kp) (ni qJ qW n2 a2 x2 uz sS)=false:=by rw [hb,f0,f1,f2,f3,f4];rfl
           exact WK.fin ok 1000 0 [(9,aj true),(15,aj true),(22,aj true),(29,aj true),(36,aj false)] [] [(aj (kd==qJ),aj true),(aj (nd==qW),aj true),(aj (n==n2),aj true),(aj (a==a2),aj true),(aj (x==x2),aj false)] rfl (by kernel_rfl:au (bq Rx) true _ 1000 0 _ _ (dz 54 [.d (ni kd nd n a x tx kp),.d (ni qJ qW n2 a2 x2 uz sS)] [])=some (aj false,[],_,_)) trivial (by refine ⟨?_,?_,?_,?_,?_,trivial⟩<;>(first | exact ah rfl | exact ah f0 | exact ah f1 | exact ah f2 | exact ah f3 | exact ah f4 | exact ah f5 | exact ah f6)) ⟨by rw [hq],rfl⟩
         | true=>
           cases f5:(tx==uz) with
           | false=>
             have hq:Kh (ni kd nd n a x tx kp) (ni qJ qW n2 a2 x2 uz sS)=false:=by rw [hb,f0,f1,f2,f3,f4,f5];rfl
             exact WK.fin ok 1000 0 [(9,aj true),(15,aj true),(22,aj true),(29,aj true),(36,aj true),(43,aj false)] [] [(aj (kd==qJ),aj true),(aj (nd==qW),aj true),(aj (n==n2),aj true),(aj (a==a2),aj true),(aj (x==x2),aj true),(aj (tx==uz),aj false)] rfl (by kernel_rfl:au (bq Rx) true _ 1000 0 _ _ (dz 54 [.d (ni kd nd n a x tx kp),.d (ni qJ qW n2 a2 x2 uz sS)] [])=some (aj false,[],_,_)) trivial (by refine ⟨?_,?_,?_,?_,?_,?_,trivial⟩<;>(first | exact ah rfl | exact ah f0 | exact ah f1 | exact ah f2 | exact ah f3 | exact ah f4 | exact ah f5 | exact ah f6)) ⟨by rw [hq],rfl⟩
           | true=>
             obtain ⟨b,f6⟩:∃b,(mJ (KL kp)==mJ (KL sS))=b:=⟨_,rfl⟩;have hq:Kh (ni kd nd n a x tx kp) (ni qJ qW n2 a2 x2 uz sS)=b:=by rw [hb,f0,f1,f2,f3,f4,f5,f6];rfl
             exact WK.fin ok 1000 0 [(9,aj true),(15,aj true),(22,aj true),(29,aj true),(36,aj true),(43,aj true),(52,aj b)] [Go.Proofs.YtjoefbioobdinaaGreatDoor.sN kp,Go.Proofs.YtjoefbioobdinaaGreatDoor.sN sS] [(aj (kd==qJ),aj true),(aj (nd==qW),aj true),(aj (n==n2),aj true),(aj (a==a2),aj true),(aj (x==x2),aj true),(aj (tx==uz),aj true),(aj (Go.Proofs.YtjoefbioobdinaaGreatDoor.mJ (Go.Proofs.YtjoefbioobdinaaGreatDoor.KL kp)==Go.Proofs.YtjoefbioobdinaaGreatDoor.mJ (Go.Proofs.YtjoefbioobdinaaGreatDoor.KL sS)),aj b)] rfl (by kernel_rfl:au (bq Rx) true _ 1000 0 _ _ (dz 54 [.d (ni kd nd n a x tx kp),.d (ni qJ qW n2 a2 x2 uz sS)] [])=some (aj b,[],_,_)) (by refine ⟨?_,?_,trivial⟩<;>(first | rfl | exact h1 | exact h2)) (by refine ⟨?_,?_,?_,?_,?_,?_,?_,trivial⟩<;>(first | exact ah rfl | exact ah f0 | exact ah f1 | exact ah f2 | exact ah f3 | exact ah f4 | exact ah f5 | exact ah f6)) ⟨by rw [hq],rfl⟩
theorem Uc:bY Tryz.prog 9 (e2 smE):=by
 refine pJ fun x x2 y c hg hc=>?_;unfold smE at hg;simp only [Option.some.injEq,Prod.mk.injEq] at hg;obtain ⟨rfl,rfl⟩:=hg;obtain ⟨kd,nd,n,a,z,tx,kp,rfl⟩:=Fv (hc (isA x) (by simp));obtain ⟨qJ,qW,n2,a2,z2,uz,sS,rfl⟩:=Fv (hc (isA x2) (by simp));exact aaK _ _ _ _ _ _ _ _ _ _ _ _ _ _ (hc (sN (Zt (ni kd nd n a z tx kp))) (by simp)) (hc (sN (Zt (ni qJ qW n2 a2 z2 uz sS))) (by simp))
abbrev X4 (kd nd n a x:Int) (tx:W) (kp:DV):aQ.Act:={ kind:=kd,node:=nd,n:=n,at_:=a,x:=x,text:=tx,keep:=KL kp }
theorem Hw {l:List Bool} (h:l.length≤1000000):sN (keepD l)=true:=by
 unfold keepD;split
 ·rfl
 ·show ((l.map DV.bool).all Qp&&decide ((l.map DV.bool).length≤1000000))=true
  rw [List.length_map,decide_eq_true h,Bool.and_true,List.all_eq_true];intro x hx;obtain ⟨b,_,rfl⟩:=List.mem_map.1 hx;rfl
theorem qL (a:aQ.Act) (m:Bool) (e:Int):(aQ.stop a m e).1.keep.length≤a.keep.length:=by
 unfold aQ.stop;by_cases h:(if m=true then kS e 6 else e)=0
 ·rw [if_pos h];exact Nat.le_refl _
 ·rw [if_neg h];exact Nat.zero_le _
theorem NP (k:Nat) (m:Bool) (r:W):(Bg k m r).1.keep.length≤r.length+1:=by
 unfold Bg;simp only;split
 all_goals first
  | exact Nat.le_trans (qL _ _ _) (Nat.zero_le _)
  | (split<;>exact Nat.le_trans (qL _ _ _) (Nat.zero_le _))
  | skip
 split
 ·refine Nat.le_trans (qL _ _ _) ?_;unfold dD;rw [List.length_map];have h1:=Dn (cK m r) (dh m r);have h2:=oD m r;omega
 ·exact Nat.le_trans (qL _ _ _) (Nat.zero_le _)
theorem Hy (s:W):(dL s).1.keep.length≤s.length+1:=by
 unfold dL;have h:=(xI s).2;generalize kindOf (aQ.cut s).1=k
 match k with
 | 0=>exact Nat.zero_le _
 | 1=>
   show (if (aQ.cut s).2.2=false∨(10:UInt8)∈(aQ.cut s).2.1 then (({}:aQ.Act),(6:Int)) else ({ kind:=1,text:=(aQ.cut s).2.1 },0)).1.keep.length≤_
   split<;>exact Nat.zero_le _
 | k+2=>
   have:=NP (k+2) (aQ.cut s).2.2 (aQ.cut s).2.1
   show (Bg (k+2) (aQ.cut s).2.2 (aQ.cut s).2.1).1.keep.length≤_
   omega
theorem NQ (kd nd n a x qJ qW n2 a2 x2:Int) (tx uz:W) (kp sS:DV):Kh (ni kd nd n a x tx kp) (ni qJ qW n2 a2 x2 uz sS)=true↔aQ.same (X4 kd nd n a x tx kp) (X4 qJ qW n2 a2 x2 uz sS):=by
 show (kd==qJ&&(nd==qW&&(n==n2&&(a==a2&&(x==x2&&(tx==uz&&mJ (KL kp)==mJ (KL sS)))))))=true↔_
 unfold aQ.same;simp only [Bool.and_eq_true,beq_iff_eq];exact Iff.rfl
end Go.Proofs.YtjoefbioobdinaaGreatDoor
namespace Go.Am
set_option linter.unusedSectionVars false
variable {P:Program} [Gl]
section
variable [Df]
abbrev zV:=Code→Code→Option (List (Nat×VK)→VK→VK)
noncomputable def sO (hook:zV) (cf:eu) (has:Nat→Bool) (call:fM) (n fuel:Nat) (ret:VK) (c:Code):List (Nat×VK)→VK→VK:=
 Code.rec (motive:=fun _=>List (Nat×VK)→VK→VK)
  (fun _ k=>k)
  (fun _ ops draw _ k R O nx=>Db cf has call n ops draw R O nx k)
  (fun x y hx hy e k=>Option.rec (motive:=fun _=>VK) (hx e (hy e k)) (fun f=>f e k) (hook x y))
  (fun c _ _ hx hy e k R O nx=>Mf (Xl c R) (hx e k R O nx) (hy e k R O nx))
  (fun id _ hb e k=>hb ((id,k)::e) k)
  (fun _ hb e _=>Ri (hb e) fuel)
  (fun _ _ _ _ _ _ _ _ _ _ _=>none)
  (fun id e _=>Me id e)
  (fun _ hb e k=>hb e k)
  (fun _ _ k=>k)
  (fun _ _ _ _ _ _=>none)
  (fun _ _=>ret)
  (fun _ _ _ _ _ _=>none) c
noncomputable def NR (hooks:Nat→zV) (fn:Nat→Option Func) (cf:eu) (has:Nat→Bool) (fuel:Nat) (call:fM):fM:=fun g args O nx wW=>
 Option.rec (motive:=fun _=>nP) none (fun f=>Option.rec (motive:=fun _=>nP) none (fun body=>
  Bool.rec (motive:=fun _=>nP) none
   (sO (hooks g) cf has call f.ntmps fuel (JU cf f.results.toList wW) body [] (JU cf f.results.toList wW) (AL 0 args RT.nil) O nx)
   (Nat.ble args.length f.ntmps&&Nat.ble f.ntmps 512)) f.body) (fn g)
noncomputable def Hz (hooks:Nat→zV) (fn:Nat→Option Func) (cf:eu) (has:Nat→Bool) (fuel:Nat) (d:Nat):fM:=
 Nat.rec (motive:=fun _=>fM) (fun _ _ _ _ _=>none) (fun _ ih=>NR hooks fn cf has fuel ih) d
inductive Sub (b:Code):Code→Prop where
 | refl:Sub b b
 | X5 {x y:Code} (h:Sub b (.seq x y)):Sub b x
 | X6 {x y:Code} (h:Sub b (.seq x y)):Sub b y
 | Rz {c:Operand} {x y:Code} (h:Sub b (.cond c x y)):Sub b x
 | RA {c:Operand} {x y:Code} (h:Sub b (.cond c x y)):Sub b y
 | block {i:Nat} {x:Code} (h:Sub b (.block i x)):Sub b x
 | loop {x:Code} (h:Sub b (.loop x)):Sub b x
 | scope {x:Code} (h:Sub b (.scope x)):Sub b x
section
variable (P)
def vS (n m:Nat) (fin:List (Nat×List RV)→VK) (body:Code) (hook:zV):Prop:=∀x y f,hook x y=some f→Sub body (.seq x y)→∀(k:List It) (e:List (Nat×VK)) (kk:VK),Good P n m fin k kk→Rj P n m fin k e→Good P n m fin (.code (.seq x y)::k) (f e kk)
end
theorem iM {hook:zV} {cf:eu} (hcf:jI P cf) (fI:P.follows .mixedOrders=true) {has:Nat→Bool} {call:fM} (hs:jV P call) {n m:Nat} (hn:n≤512) {fin:List (Nat×List RV)→VK} {body:Code} (hh:vS P n m fin body hook) (fuel:Nat):∀(c:Code) (_:Sub body c) (k:List It) (e:List (Nat×VK)) (kk:VK),
 Good P n m fin k kk→Rj P n m fin k e→Good P n m fin (.code c::k) (sO hook cf has call n fuel (fin Df.df) c e kk)
 | .skip,hS,k,e,kk,hk,he=>fun R O nx a h=>(hk R O nx a h).by fun _ W=>WK.skip W
 | .region id ops draw,hS,k,e,kk,hk,he=>ER hcf fI hs hn hk
 | .seq x y,hS,k,e,kk,hk,he=>fun R O nx a h=>by
   have h:Option.rec (motive:=fun _=>VK) (sO hook cf has call n fuel (fin Df.df) x e (sO hook cf has call n fuel (fin Df.df) y e kk)) (fun f=>f e kk) (hook x y) R O nx=some a:=h;cases hx:hook x y with
   | none=>
     rw [hx] at h;exact (iM hcf fI hs hn hh fuel x hS.X5 (.code y::k) e _ (iM hcf fI hs hn hh fuel y hS.X6 k e kk hk he) (fun id R O nx a h=>he id R O nx a h) R O nx a h).by fun _ W=>WK.seq W
   | some f=>
     rw [hx] at h;exact hh x y f hx hS k e kk hk he R O nx a h
 | .cond c x y,hS,k,e,kk,hk,he=>fun R O nx a h=>by
   have h:Mf (Xl c R) (sO hook cf has call n fuel (fin Df.df) x e kk R O nx) (sO hook cf has call n fuel (fin Df.df) y e kk R O nx)=some a:=h;unfold Mf at h;split at h
   ·rename_i t hc;rw [Gw] at hc;cases t with
    | true=>exact (iM hcf fI hs hn hh fuel x hS.Rz k e kk hk he R O nx a h).by fun _ W=>WK.cond (t:=true) hc W
    | false=>exact (iM hcf fI hs hn hh fuel y hS.RA k e kk hk he R O nx a h).by fun _ W=>WK.cond (t:=false) hc W
   ·cases h
 | .block id b,hS,k,e,kk,hk,he=>fun R O nx a h=>by
   refine (iM hcf fI hs hn hh fuel b hS.block (.blk id::k) ((id,kk)::e) kk (fun R O nx a h=>(hk R O nx a h).by fun _ W=>WK.blk W) (fun id' R O nx a h=>?_) R O nx a h).by fun _ W=>WK.block W;have h:Bool.rec (motive:=fun _=>VK) (Me id' e) kk (Nat.beq id id') R O nx=some a:=h;cases hb:Nat.beq id id' with
   | true=>
     rw [hb] at h;exact ⟨k,by simp only [lH,hb,cond_true],hk R O nx a h⟩
   | false=>
     rw [hb] at h;obtain ⟨k',h1,h2⟩:=he id' R O nx a h;exact ⟨k',by simp only [lH,hb,cond_false];exact h1,h2⟩
 | .loop b,hS,k,e,kk,hk,he=>fun R O nx a h=>by
   have key:∀f,Good P n m fin (.code b :: .lp b::k) (Ri (sO hook cf has call n fuel (fin Df.df) b e) f):=by
    intro f;induction f with
    | zero=>intro R O nx a h;cases h
    | succ f ih=>exact iM hcf fI hs hn hh fuel b hS.loop (.lp b::k) e _ (fun R O nx a h=>(ih R O nx a h).by fun _ W=>WK.again W) (fun id R O nx a h=>he id R O nx a h)
   exact (key fuel R O nx a h).by fun _ W=>WK.enter W
 | .rangeFunc _ _ _ _,hS,k,e,kk,hk,he=>fun R O nx a h=>by cases h
 | .exit id,hS,k,e,kk,hk,he=>fun R O nx a h=>by
   obtain ⟨k',h1,h2⟩:=he id R O nx a h;exact h2.by fun _ W=>WK.exit h1 W
 | .scope b,hS,k,e,kk,hk,he=>fun R O nx a h=>
   (iM hcf fI hs hn hh fuel b hS.scope (.scp b::k) e kk (fun R O nx a h=>(hk R O nx a h).by fun _ W=>WK.scp W) (fun id R O nx a h=>he id R O nx a h) R O nx a h).by fun _ W=>WK.scope W
 | .label _,hS,k,e,kk,hk,he=>fun R O nx a h=>(hk R O nx a h).by fun _ W=>WK.label W
 | .goto _,hS,k,e,kk,hk,he=>fun R O nx a h=>by cases h
 | .ret,hS,k,e,kk,hk,he=>fun R O nx a h=>⟨Df.df,R,O,nx,h,WK.ret rfl⟩
 | .refuse _,hS,k,e,kk,hk,he=>fun R O nx a h=>by cases h
end
theorem NS {cf:eu} (hcf:jI P cf) (fI:P.follows .mixedOrders=true) {hooks:Nat→zV} {fn:Nat→Option Func} (hks:∀g f body,fn g=some f→f.body=some body→∀fin,vS P f.ntmps 1048576 fin body (hooks g)) (hfn:∀g f,fn g=some f→P.funcs[g]? = some f) {has:Nat→Bool} {call:fM} (hs:jV P call) (fuel:Nat):jV P (NR hooks fn cf has fuel call):=by
 intro g args O nx wW a hk;unfold NR at hk;cases hf0:fn g with
 | none=>rw [hf0] at hk;cases hk
 | some f=>
   have hf:=hfn g f hf0;rw [hf0] at hk;simp only at hk;cases hb:f.body with
   | none=>rw [hb] at hk;cases hk
   | some body=>
     rw [hb] at hk;simp only at hk;cases hg:(Nat.ble args.length f.ntmps&&Nat.ble f.ntmps 512) with
     | false=>rw [hg] at hk;cases hk
     | true=>
       rw [hg] at hk;simp only at hk;simp only [Bool.and_eq_true] at hg;have g1:=Nat.le_of_ble_eq_true hg.1;have g2:=Nat.le_of_ble_eq_true hg.2
       have W:=iM (P:=P) (m:=1048576) (fin:=Xo (JU cf f.results.toList wW)) hcf fI hs g2 (hks g f body hf0 hb _) fuel body .refl [] [] (JU cf f.results.toList wW) (fun R O nx a h=>⟨[],R,O,nx,h,WK.done rfl⟩)
        (fun id R O nx a h=>by cases h) _ _ _ _ hk
       obtain ⟨D1,R1,O1,zU,hret,W⟩:=W;cases D1 with
       | cons=>cases hret
       | nil=>
       have hret:JU cf f.results.toList wW R1 O1 zU=some a:=hret;unfold JU at hret;cases hres:eX (mV cf.E R1.fn O1.fn) f.results.toList with
       | none=>rw [hres] at hret;cases hret
       | some LP=>
         rw [hres] at hret;refine ⟨one LP,O1,zU,hret,?_⟩
         have aaL:mY f.ntmps (AL 0 args RT.nil) O = { n:=f.ntmps,R:=fun t=>(args[t]?).getD .bot,O:=O.fn }:=by
          unfold mY;rw [EO args 0 _ (by omega),RT.Gr];congr 1;funext t;simp only [Nat.not_lt_zero,if_false,Nat.zero_add,Nat.sub_zero];split
          ·rfl
          ·rw [List.getElem?_eq_none (by omega)];rfl
         intro κ φ w vs h1 h2 h3 h4;refine rF hf hb ?_
         have F:aC κ φ w { n:=f.ntmps,R:=fun t=>(args[t]?).getD .bot,O:=O.fn } { tmps:=vs++Array.replicate (f.ntmps-vs.size) undef,defers:=[] }:=by
          refine ⟨fun t=>?_,h1,h2,by simp;omega,trivial⟩;by_cases ht:t < args.length
          ·have e1:args[t]? = some args[t]:=by simp [ht]
           have e2:vs[t]? = some vs[t]:=by simp [show t < vs.size by omega]
           have e3:(vs++Array.replicate (f.ntmps-vs.size) undef).getD t undef=vs[t]:=by
            rw [Array.getD_eq_getD_getElem?,Array.getElem?_append_left (by omega),e2];rfl
           simp only [e1,Option.getD_some,e3];exact h4 t _ _ e1 e2
          ·have e1:args[t]? = none:=by simp;omega
           simp only [e1,Option.getD_none];exact .bot _
         intro b cs;rw [aaL] at W;obtain ⟨e,a',w',κ',φ',s',he,hs',F',R',K',harr⟩:=W κ φ w _ F b cs;subst hs';refine ⟨e,a',w',he,⟨QT.nil F'.df,?_⟩,harr⟩;rw [hcf.E] at hres
         have hrun:∃us:List Value,(results f a'.tmps).run P w' = .ok (if hh:us.toArray.size=1 then us.toArray[0] else .tuple us.toArray) w'∧us.length=LP.length∧
          ∀(i:Nat) (x:RV) (v:Value),LP[i]? = some x→us[i]? = some v→bE κ' φ' O1.fn w'.heap x v:=by
          have hdef:results f a'.tmps=(do
           let vs ←f.results.mapM (JO a'.tmps)
           pure (if h:vs.size=1 then vs[0] else .tuple vs)):=by
           unfold results JO;rfl
          obtain ⟨us,u1,u2,u3⟩:=sD F' (JO a'.tmps) (fun _=>rfl) (fun _ _=>rfl) _ LP hres;refine ⟨us,?_,u2,u3⟩;rw [hdef];simp only [Sem.run_bind];rw [Array.mapM_eq_mapM_toList];simp only [Sem.run_map];rw [u1];rfl
         obtain ⟨us,hrun,u2,u3⟩:=hrun
         have hlt:∀i,φ i≠.un→i < 1048576:=fun i hi=>by
          rcases Nat.lt_or_ge i 1048576 with h | h
          ·exact h
          ·have:=h1 i
           rw [OT.Si h] at this;exact absurd this hi
         exact ⟨_,hrun,_,κ',φ',rfl,LM (by omega) u3,F'.objs,F'.bnd,R',⟨fun i hi=>K'.phi i (hlt i hi) hi,fun i n hi hn=>K'.len i n (hlt i hi) hi hn⟩⟩
theorem Bz {cf:eu} (hcf:jI P cf) (fI:P.follows .mixedOrders=true) {hooks:Nat→zV} {fn:Nat→Option Func} (hks:∀g f body,fn g=some f→f.body=some body→∀fin,vS P f.ntmps 1048576 fin body (hooks g)) (hfn:∀g f,fn g=some f→P.funcs[g]? = some f) {has:Nat→Bool} (fuel:Nat):∀d,jV P (Hz hooks fn cf has fuel d)
 | 0=>fun g args O nx wW a h=>by cases h
 | d+1=>NS hcf fI hks hfn (Bz hcf fI hks hfn fuel d) fuel
theorem HV {cf:eu} (hcf:jI P cf) (fI:P.follows .mixedOrders=true) {hooks:Nat→zV} {fn:Nat→Option Func} (hks:∀g f body,fn g=some f→f.body=some body→∀fin,vS P f.ntmps 1048576 fin body (hooks g)) (hfn:∀g f,fn g=some f→P.funcs[g]? = some f) (has:Nat→Bool) (fuel d:Nat) {f:Nat} {args:List RV} {objs:List ay} {r:RV} {os:List ay}
 (h:JQ (C9 (Hz hooks fn cf has fuel d)) f args objs=some (r,os,[])):C P f args objs (fun r2 o2=>r2=r∧o2=os):=
 IU (AX (Bz hcf fI hks hfn fuel d)) f args objs r os [] h (by simp)
end Go.Am
namespace Go.Am
set_option linter.unusedSectionVars false
variable {P:Program} [Gl] [Df]
theorem aC.Ud {κ:bB} {φ:bJ} {w w' : World} {s:bQ} {a:Act} (F:aC κ φ w s a) {b:Nat} {o o' : Obj} (hb:κ b = .kW) (ho:w.heap[b]? = some o) (hc:∀c ty fz,o≠.cells c ty fz)
 (hw:w'.heap=w.heap.setIfInBounds b o'):aC κ φ w' s a:=by
 have ne:∀x,x≠b→w'.heap[x]? = w.heap[x]?:=fun x hx=>by rw [hw,Array.getElem?_setIfInBounds_ne (fun e=>hx e.symm)]
 have hsz:w'.heap.size=w.heap.size:=by rw [hw];simp
 have iY:∀x,κ x = .dS→κ x = .dS∧w'.heap[x]? = w.heap[x]?:=fun x hx=>⟨hx,ne x (fun e=>by subst e;rw [hb] at hx;cases hx)⟩
 have M:dW κ φ s.O w.heap κ φ s.O w'.heap:=
  { dS:=iY
    w9:=fun x c ty fz hx=>⟨c,fz,by rw [ne x (fun e=>by subst e;rw [ho] at hx;injection hx with hx;exact hc _ _ _ hx)];exact hx,rfl⟩
    phi:=fun _ _=>rfl
    len:=fun _ _ _ h=>h }
 refine ⟨fun t=>(F.regs t).mono M,fun i=>(F.objs i).mono M (fun x hx=>⟨hx,ne x (fun e=>by subst e;rw [hb] at hx;cases hx)⟩) rfl,⟨fun x hx=>by rw [hsz];exact F.bnd.lt x hx,fun p hp=>?_⟩,F.n,F.df.mono M⟩;obtain ⟨h1,c,ty,fz,h2,h3⟩:=F.bnd.gl p hp;exact ⟨h1,c,ty,fz,by rw [ne p.1 (fun e=>by rw [e,ho] at h2;injection h2 with h2;exact hc _ _ _ h2)];exact h2,h3⟩
noncomputable def forget (ws:List Nat) (R:RT):RT:=ws.foldl (fun R t=>R.put t .bot) R
theorem aC.lT {κ:bB} {φ:bJ} {w:World} {s:bQ} {a:Act} (F:aC κ φ w s a) {d:Nat} (hd:d < s.n) (hb:s.R d = .bot) (v:Value):aC κ φ w s (a.put (some d) v):=by
 have:=F.put (d:=d) (rv:=.bot) (v:=v) hd (.bot _)
 have e:({ s with R:=jl s.R d .bot }:bQ)=s:=by
  have:jl s.R d .bot=s.R:=by
   funext t;simp only [jl];split
   ·rename_i h;rw [h,hb]
   ·rfl
  rw [this]
 rw [e] at this;exact this
theorem jf {a:Act} {n d:Nat} {v:Value} (hn:a.tmps.size=n) (hd:d < n):(a.put (some d) v).eval (.tmp d)=v:=by
 show (a.put (some d) v).tmps.getD d undef=v
 rw [xR,if_pos ⟨rfl,by rw [hn];exact hd⟩]
theorem eD {a:Act} {d t:Nat} {v:Value} (h:t≠d):(a.put (some d) v).eval (.tmp t)=a.eval (.tmp t):=by
 show (a.put (some d) v).tmps.getD t undef=a.tmps.getD t undef
 rw [xR,if_neg (fun e=>h e.1)]
theorem gP (a:Act) (d:Nat) (v:Value):(a.put (some d) v).tmps.size=a.tmps.size:=by simp [Act.put]
structure kV where
 it:Nat
 nx:Nat
 tb:Nat
 en:Nat
 ke:Nat
 kv:Nat
 a1:Nat
 a2:Nat
 tg:Nat
 pg:Nat
def kV.ws (g:kV):List Nat:=[g.it,g.nx,g.tb,g.en,g.ke,g.kv,g.a1,g.a2,g.tg]
theorem Fw {ops:Array Oper} {o0 o1:Oper} (ho:ops = #[o0,o1]) {g:kV} (h0:o0.op = .next (.tmp g.it) false) (d0:o0.dst=some g.nx) (g0:o0.guard=none)
 (h1:o1.op = .extract (.tmp g.nx) 0) (d1:o1.dst=some g.tb) (g1:o1.guard=none) {a:Act} {w w' : World} {n:Nat} (hn:a.tmps.size=n) (hnx:g.nx < n) {t:Bool} {vs:Array Value} {bp:Value}
 (hit:a.eval (.tmp g.it)=bp) (hv0:vs[0]? = some (.bool t)) (hr:(Instr.next bp false o0.type).run P w = .ok (.tuple vs) w') :
 wpOps P ops (fun e a' w2=>e = .normal∧w2=w'∧a'=(a.put (some g.nx) (.tuple vs)).put (some g.tb) (.bool t)) (List.range ops.size) a w:=by
 subst ho;have hsz:(#[o0,o1]:Array Oper).size=2:=rfl;rw [hsz]
 show wpOps P #[o0,o1] _ [0,1] a w
 rw [wpOps_cons];unfold wpOp;have e0:(#[o0,o1]:Array Oper)[0]? = some o0:=rfl;rw [e0];simp only [Region.wanted,g0,if_true];left;refine fB (v:=.tuple vs) (w':=w') ?_ ?_
 ·simp only [execOp,h0,hit,Sem.run_bind,hr,Result.andThen_ok,Sem.run_pure]
 ·rw [d0,wpOps_cons];unfold wpOp;have e1:(#[o0,o1]:Array Oper)[1]? = some o1:=rfl;rw [e1];simp only [Region.wanted,g1,if_true];left;refine fB (v:=.bool t) (w':=w') ?_ ?_
  ·have hx:(a.put (some g.nx) (.tuple vs)).eval (.tmp g.nx) = .tuple vs:=jf hn hnx;simp only [execOp,h1,hx];simp [Instr.extract,hv0]
  ·rw [d1];exact ⟨rfl,rfl,rfl⟩
theorem kg {ops:Array Oper} {Q:Exit→Act→World→Prop} {i:Nat} {rest:List Nat} {o:Oper} (hi:ops[i]? = some o) (hg:o.guard=none) {d:Nat} (hd:o.dst=some d) {a:Act} {w w' : World} {v:Value}
 (hr:(execOp a.eval o).run P w = .ok (.value v) w') (h:wpOps P ops Q rest (a.put (some d) v) w'):wpOps P ops Q (i::rest) a w:=by
 rw [wpOps_cons];unfold wpOp;rw [hi];simp only [Region.wanted,hg,if_true];left;exact fB hr (by rw [hd];exact h)
theorem Ki {ops:Array Oper} {o0 o1 o2:Oper} (ho:ops = #[o0,o1,o2]) {g:kV} (h0:o0.op = .entry (.tmp g.it)) (d0:o0.dst=some g.en) (g0:o0.guard=none)
 (h1:o1.op = .extract (.tmp g.en) 0) (d1:o1.dst=some g.ke) (g1:o1.guard=none) (h2:o2.op = .assign (.tmp g.ke)) (d2:o2.dst=some g.kv) (g2:o2.guard=none)
 {a:Act} {w:World} {n:Nat} (hn:a.tmps.size=n) (hen:g.en < n) (hke:g.ke < n) {k v bp:Value} (hit:a.eval (.tmp g.it)=bp) (hr:(Instr.entry bp).run P w = .ok (.tuple #[k,v]) w) :
 wpOps P ops (fun e a' w2=>e = .normal∧w2=w∧a'=((a.put (some g.en) (.tuple #[k,v])).put (some g.ke) k).put (some g.kv) k) (List.range ops.size) a w:=by
 subst ho
 show wpOps P #[o0,o1,o2] _ [0,1,2] a w
 refine kg (o:=o0) rfl g0 d0 (v:=.tuple #[k,v]) (w':=w) ?_ (kg (o:=o1) rfl g1 d1 (v:=k) (w':=w) ?_ (kg (o:=o2) rfl g2 d2 (v:=k) (w':=w) ?_ ⟨rfl,rfl,rfl⟩))
 ·simp only [execOp,h0,hit,Sem.run_bind,hr,Result.andThen_ok,Sem.run_pure]
 ·have hx:(a.put (some g.en) (.tuple #[k,v])).eval (.tmp g.en) = .tuple #[k,v]:=jf hn hen;simp only [execOp,h1,hx];simp [Instr.extract]
 ·have hx:((a.put (some g.en) (.tuple #[k,v])).put (some g.ke) k).eval (.tmp g.ke)=k:=jf (by rw [gP];exact hn) hke;simp only [execOp,h2,hx];rfl
theorem Qx {ops:Array Oper} {o0 o1 o2:Oper} {T T2:TypeId} (ho:ops = #[o0,o1,o2]) {g:kV} (h0:o0.op = .move (.tmp g.kv)) (d0:o0.dst=some g.a1) (g0:o0.guard=none)
 (h1:o1.op = .move (.tmp g.pg)) (d1:o1.dst=some g.a2) (g1:o1.guard=none) (h2:o2.op = .binOp .gtr T (.tmp g.a1) (.tmp g.a2) T2) (d2:o2.dst=some g.tg) (g2:o2.guard=none)
 {a:Act} {w:World} {n:Nat} (hn:a.tmps.size=n) (ha1:g.a1 < n) (ha2:g.a2 < n) (hne:g.pg≠g.a1) (hne2:g.a1≠g.a2) {k p:Int} (hk:a.eval (.tmp g.kv) = .int .i64 k) (hp:a.eval (.tmp g.pg) = .int .i64 p) (hle:k≤p) :
 wpOps P ops (fun e a' w2=>e = .normal∧w2=w∧a'=((a.put (some g.a1) (.int .i64 k)).put (some g.a2) (.int .i64 p)).put (some g.tg) (.bool false)) (List.range ops.size) a w:=by
 subst ho
 show wpOps P #[o0,o1,o2] _ [0,1,2] a w
 refine kg (o:=o0) rfl g0 d0 (v:=.int .i64 k) (w':=w) ?_ (kg (o:=o1) rfl g1 d1 (v:=.int .i64 p) (w':=w) ?_ (kg (o:=o2) rfl g2 d2 (v:=.bool false) (w':=w) ?_ ⟨rfl,rfl,rfl⟩))
 ·simp only [execOp,h0,hk];rfl
 ·have hx:(a.put (some g.a1) (.int .i64 k)).eval (.tmp g.pg) = .int .i64 p:=by rw [eD hne];exact hp
  simp only [execOp,h1,hx];rfl
 ·have hx:((a.put (some g.a1) (.int .i64 k)).put (some g.a2) (.int .i64 p)).eval (.tmp g.a2) = .int .i64 p:=jf (by rw [gP];exact hn) ha2;have hy:((a.put (some g.a1) (.int .i64 k)).put (some g.a2) (.int .i64 p)).eval (.tmp g.a1) = .int .i64 k:=by rw [eD hne2];exact jf hn ha1
  have hlt:¬p < k:=by omega
  simp only [execOp,h2,hx,hy];simp [eqGuard,binOp,Op.intCmp,hlt]
structure sP where
 r7:Nat
 Qy:Array Oper
 OL:Nat
 id1:Nat
 r8:Nat
 Ue:Array Oper
 r9:Nat
 Uf:Array Oper
 del:Code
def sP.body (c:sP) (g:kV):Code:=
 .seq (.region c.r7 c.Qy false) (.seq (.cond (.tmp g.tb) .skip (.exit c.OL)) (.block c.id1 (.seq (.region c.r8 c.Ue false) (.seq (.region c.r9 c.Uf false) (.cond (.tmp g.tg) c.del .skip)))))
structure RgOk (c:sP) (g:kV) (n:Nat):Prop where
 o7:∃o0 o1,c.Qy = #[o0,o1]∧o0.op = .next (.tmp g.it) false∧o0.dst=some g.nx∧o0.guard=none∧o1.op = .extract (.tmp g.nx) 0∧o1.dst=some g.tb∧o1.guard=none
 o8:∃o0 o1 o2,c.Ue = #[o0,o1,o2]∧o0.op = .entry (.tmp g.it)∧o0.dst=some g.en∧o0.guard=none∧o1.op = .extract (.tmp g.en) 0∧o1.dst=some g.ke∧o1.guard=none∧o2.op = .assign (.tmp g.ke)∧o2.dst=some g.kv∧o2.guard=none
 o9:∃o0 o1 o2 T T2,c.Uf = #[o0,o1,o2]∧o0.op = .move (.tmp g.kv)∧o0.dst=some g.a1∧o0.guard=none∧o1.op = .move (.tmp g.pg)∧o1.dst=some g.a2∧o1.guard=none∧o2.op = .binOp .gtr T (.tmp g.a1) (.tmp g.a2) T2∧o2.dst=some g.tg∧o2.guard=none
 lt:∀d∈g.ws,d < n
 pgw:g.pg∉g.ws
 nodup:g.ws.Nodup
theorem vU {id:Nat} {ops:Array Oper} {a a1:Act} {w w' : World} (h:wpOps P ops (fun e a' w2=>e = .normal∧w2=w'∧a'=a1) (List.range ops.size) a w) (fr:Frame) (k:List Item) (cs:List Frame) :
 Steps P (lone (fr.at a (.code (.region id ops false)::k)) cs w) (lone (fr.at a1 k) cs w'):=by
 obtain ⟨e,a2,w2,⟨rfl,rfl,rfl⟩,harr⟩:=wp_region (id:=id) h fr k cs;exact harr
theorem Qz {c:sP} {g:kV} {n m:Nat} (hc:RgOk c g n) {K:List It} {Q:bQ→Prop} {s:bQ} (hsn:s.n=n) (X7:∀d∈g.ws,d≠g.it→s.R d = .bot) {p:Int} (hpg:s.R g.pg = .d (.int .i64 p))
 (hK:WK P m K s Q) {κ0:bB} {w0:World} {φ0:bJ} {O0:Tab} {b mb since clock:Nat} {eF:Array MapEntry} (hb0:w0.heap.size≤b) (hold:∀x∈eF.toList,x.born < since) (hnd:(eF.toList.map (·.born)).Nodup)
 (hle:∀x∈eF.toList,∃k:Int,x.key = .int .i64 k∧k≤p) (hne:mb≠b) :
 ∀(fuel:Nat) (κ:bB) (φ:bJ) (w:World) (a:Act) (seen:Array Nat) (c0:Nat),(leftOf eF seen).size=fuel→aC κ φ w s a→Fr κ0 w0 κ w→nS m φ0 O0 φ s.O→κ b = .kW→
  w.heap[b]? = some (.mapIter (some mb) since seen c0)→since≤c0→w.heap[mb]? = some (.map eF clock)→since≤clock→a.eval (.tmp g.it) = .pointer (some ⟨b,0,none⟩)→
  ∀(fr:Frame) (cs:List Frame),∃e a' w' κ' φ' s',(e = .normal∨e = .ret)∧Q s'∧aC κ' φ' w' s' a'∧Fr κ0 w0 κ' w'∧nS m φ0 O0 φ' s'.O∧
   Arrives P (lone (fr.at a ((.code (c.body g) :: .lp (c.body g) :: .blk c.OL::K).map It.item)) cs w) fr [] cs e a' w':=by
 obtain ⟨p0,p1,e7,p2,p3,p4,p5,p6,p7⟩:=hc.o7;obtain ⟨q0,q1,q2,e8,q3,q4,q5,q6,q7,q8,q9,q10,q11⟩:=hc.o8;obtain ⟨t0,t1,t2,T,T2,e9,t3,t4,t5,t6,t7,t8,t9,t10,t11⟩:=hc.o9;have hw:=hc.lt;have NT:=hc.nodup;have DK:=hc.pgw;simp only [kV.ws,List.mem_cons,List.mem_nil_iff,or_false,forall_eq_or_imp,forall_eq] at hw X7;simp only [kV.ws,List.nodup_cons,List.mem_cons,List.mem_nil_iff,or_false,not_or] at NT;simp only [kV.ws,List.mem_cons,List.mem_nil_iff,or_false,not_or] at DK;obtain ⟨l1,l2,l3,l4,l5,l6,l7,l8,l9⟩:=hw;obtain ⟨-,u2,u3,u4,u5,u6,u7,u8,u9⟩:=X7;obtain ⟨⟨n12,n13,n14,n15,n16,n17,n18,n19⟩,⟨n23,n24,n25,n26,n27,n28,n29⟩,⟨n34,n35,n36,n37,n38,n39⟩,⟨n45,n46,n47,n48,n49⟩,⟨n56,n57,n58,n59⟩,⟨n67,n68,n69⟩,⟨n78,n79⟩,n89,-⟩:=NT;have r2:=u2 (fun e=>n12 e.symm);have r3:=u3 (fun e=>n13 e.symm);have r4:=u4 (fun e=>n14 e.symm);have r5:=u5 (fun e=>n15 e.symm);have r6:=u6 (fun e=>n16 e.symm);have r7:=u7 (fun e=>n17 e.symm);have r8:=u8 (fun e=>n18 e.symm);have r9:=u9 (fun e=>n19 e.symm);intro fuel;induction fuel using Nat.strongRecOn with
 | _ fuel ih=>
   intro κ φ w a seen c0 hfuel F hR hKp hκ hr hsc hm hsk hit fr cs;have hn:a.tmps.size=n:=by rw [F.n];exact hsn
   have start:∀{a1:Act} {w1:World},wpOps P c.Qy (fun e a' w2=>e = .normal∧w2=w1∧a'=a1) (List.range c.Qy.size) a w→
    Steps P (lone (fr.at a ((.code (c.body g) :: .lp (c.body g) :: .blk c.OL::K).map It.item)) cs w)
     (lone (fr.at a1 (.code (.seq (.cond (.tmp g.tb) .skip (.exit c.OL)) (.block c.id1 (.seq (.region c.r8 c.Ue false) (.seq (.region c.r9 c.Uf false) (.cond (.tmp g.tg) c.del .skip))))) :: .inLoop (c.body g) :: .inBlock c.OL::K.map It.item)) cs w1):=by
    intro a1 w1 h;refine Steps.trans (.one step_seq) ?_;exact vU h fr _ cs
   rcases Go.run_next_at w p0.type b mb since c0 seen eF clock hr hm hold hsc with ⟨_,hrun⟩ | ⟨e,he,w1,hw1,hrun⟩
   ·have h7:=Fw (P:=P) e7 p2 p3 p4 p5 p6 p7 hn l2 hit (t:=false) rfl hrun;have F1:aC κ φ w s ((a.put (some g.nx) (.tuple #[.bool false])).put (some g.tb) (.bool false)):=(F.lT (by rw [hsn];exact l2) r2 _).lT (by rw [hsn];exact l3) r3 _;obtain ⟨e',a',w',κ',φ',s',h1,h2,h3,h4,h5,h6⟩:=hK κ φ w _ F1 fr cs;refine ⟨e',a',w',κ',φ',s',h1,h2,h3,hR.trans h4,hKp.trans h5,h6.of_steps ?_⟩;refine Steps.trans (start h7) (Steps.trans (.one step_seq) (Steps.trans (.one (step_cond (t:=false) (jf (by rw [gP];exact hn) l3))) ?_));refine .one (step_exit ?_);simp [exitTo]
   ·obtain ⟨hme,_⟩:=Go.mem_left he;obtain ⟨kk,hkk,hkp⟩:=hle e hme
    have hh:(ChangeMaps.setBlock w1 b (.mapIter (some mb) since (seen.push e.born) clock)).heap=w.heap.setIfInBounds b (.mapIter (some mb) since (seen.push e.born) clock):=by
     rcases hw1 with rfl | rfl<;>rfl
    have hos:(ChangeMaps.setBlock w1 b (.mapIter (some mb) since (seen.push e.born) clock)).os=w.os∧(ChangeMaps.setBlock w1 b (.mapIter (some mb) since (seen.push e.born) clock)).output=w.output:=by
     rcases hw1 with rfl | rfl<;>exact ⟨rfl,rfl⟩
    generalize ChangeMaps.setBlock w1 b (.mapIter (some mb) since (seen.push e.born) clock)=w2 at hrun hh hos;have hlt:=(Array.getElem?_eq_some_iff.1 hr).1;have hb2:w2.heap[b]? = some (.mapIter (some mb) since (seen.push e.born) clock):=by rw [hh];simp [hlt]
    have hm2:w2.heap[mb]? = some (.map eF clock):=by rw [hh,Array.getElem?_setIfInBounds_ne (fun e=>hne e.symm)];exact hm
    have ne:∀x,x≠b→w2.heap[x]? = w.heap[x]?:=fun x hx=>by rw [hh,Array.getElem?_setIfInBounds_ne (fun e=>hx e.symm)]
    have F2:aC κ φ w2 s a:=F.Ud hκ hr (by intro c ty fz h;cases h) hh
    have hR2:Fr κ0 w0 κ w2:=by
     refine ⟨by rw [hh];simpa using hR.size,fun x hx=>?_,fun x hx ho=>?_,fun x c ty fz hx=>?_,hos.1.trans hR.os,hos.2.trans hR.out⟩
     ·obtain ⟨a1,a2⟩:=hR.dS x hx;exact ⟨a1,(ne x (fun e=>by subst e;rw [hκ] at a1;cases a1)).trans a2⟩
     ·obtain ⟨a1,a2⟩:=hR.kW x hx ho;exact ⟨a1,(ne x (by omega)).trans a2⟩
     ·obtain ⟨c',uH,a1,a2⟩:=hR.w9 x c ty fz hx
      have:=(Array.getElem?_eq_some_iff.1 hx).1
      exact ⟨c',uH,(ne x (by omega)).trans a1,a2⟩
    have hpv:a.eval (.tmp g.pg) = .int .i64 p:=by
     have:=F.regs g.pg
     rw [hpg] at this
     show a.tmps.getD g.pg undef=_
     generalize a.tmps.getD g.pg undef=v at this;cases this with
     | d h=>cases h;rfl
    have h7:=Fw (P:=P) e7 p2 p3 p4 p5 p6 p7 hn l2 hit (t:=true) rfl hrun;have hn2:((a.put (some g.nx) (.tuple #[.bool true,e.key,e.val])).put (some g.tb) (.bool true)).tmps.size=n:=by rw [gP,gP];exact hn
    have hit2:((a.put (some g.nx) (.tuple #[.bool true,e.key,e.val])).put (some g.tb) (.bool true)).eval (.tmp g.it) = .pointer (some ⟨b,0,none⟩):=by
     rw [eD n13,eD n12];exact hit
    have hp2:((a.put (some g.nx) (.tuple #[.bool true,e.key,e.val])).put (some g.tb) (.bool true)).eval (.tmp g.pg) = .int .i64 p:=by
     rw [eD DK.2.2.1,eD DK.2.1];exact hpv
    have F3:aC κ φ w2 s ((a.put (some g.nx) (.tuple #[.bool true,e.key,e.val])).put (some g.tb) (.bool true)):=(F2.lT (by rw [hsn];exact l2) r2 _).lT (by rw [hsn];exact l3) r3 _;have htb:((a.put (some g.nx) (.tuple #[.bool true,e.key,e.val])).put (some g.tb) (.bool true)).eval (.tmp g.tb) = .bool true:=jf (by rw [gP];exact hn) l3;have first:=start h7;generalize (a.put (some g.nx) (.tuple #[.bool true,e.key,e.val])).put (some g.tb) (.bool true)=a2 at hn2 hit2 hp2 F3 htb first;have h8:=Ki (P:=P) e8 q3 q4 q5 q6 q7 q8 q9 q10 q11 hn2 l4 l5 hit2 (Go.run_entry_at w2 b mb since seen eF clock e hb2 hm2 hme hnd);have hn3:(((a2.put (some g.en) (.tuple #[e.key,e.val])).put (some g.ke) e.key).put (some g.kv) e.key).tmps.size=n:=by rw [gP,gP,gP];exact hn2
    have hk3:(((a2.put (some g.en) (.tuple #[e.key,e.val])).put (some g.ke) e.key).put (some g.kv) e.key).eval (.tmp g.kv) = .int .i64 kk:=by rw [jf (by rw [gP,gP];exact hn2) l6];exact hkk
    have hp3:(((a2.put (some g.en) (.tuple #[e.key,e.val])).put (some g.ke) e.key).put (some g.kv) e.key).eval (.tmp g.pg) = .int .i64 p:=by
     rw [eD DK.2.2.2.2.2.1,eD DK.2.2.2.2.1,eD DK.2.2.2.1];exact hp2
    have hit3:(((a2.put (some g.en) (.tuple #[e.key,e.val])).put (some g.ke) e.key).put (some g.kv) e.key).eval (.tmp g.it) = .pointer (some ⟨b,0,none⟩):=by
     rw [eD n16,eD n15,eD n14];exact hit2
    have F4:aC κ φ w2 s (((a2.put (some g.en) (.tuple #[e.key,e.val])).put (some g.ke) e.key).put (some g.kv) e.key):=
     ((F3.lT (by rw [hsn];exact l4) r4 _).lT (by rw [hsn];exact l5) r5 _).lT (by rw [hsn];exact l6) r6 _
    generalize ((a2.put (some g.en) (.tuple #[e.key,e.val])).put (some g.ke) e.key).put (some g.kv) e.key=a3 at h8 hn3 hk3 hp3 hit3 F4;have h9:=Qx (P:=P) (w:=w2) e9 t3 t4 t5 t6 t7 t8 t9 t10 t11 hn3 l7 l8 DK.2.2.2.2.2.2.1 n78 hk3 hp3 hkp
    have F5:aC κ φ w2 s (((a3.put (some g.a1) (.int .i64 kk)).put (some g.a2) (.int .i64 p)).put (some g.tg) (.bool false)):=
     ((F4.lT (by rw [hsn];exact l7) r7 _).lT (by rw [hsn];exact l8) r8 _).lT (by rw [hsn];exact l9) r9 _
    have htg:(((a3.put (some g.a1) (.int .i64 kk)).put (some g.a2) (.int .i64 p)).put (some g.tg) (.bool false)).eval (.tmp g.tg) = .bool false:=jf (by rw [gP,gP];exact hn3) l9
    have aaM:(((a3.put (some g.a1) (.int .i64 kk)).put (some g.a2) (.int .i64 p)).put (some g.tg) (.bool false)).eval (.tmp g.it) = .pointer (some ⟨b,0,none⟩):=by
     rw [eD n19,eD n18,eD n17];exact hit3
    obtain ⟨e',a',w',κ',φ',s',h1,h2,h3,h4,h5,h6⟩:=ih _ (by rw [←hfuel];exact Go.left_shrinks eF seen e he) κ φ w2 _ (seen.push e.born) clock rfl F5 hR2 hKp hκ hb2 hsk hm2 hsk aaM fr cs;refine ⟨e',a',w',κ',φ',s',h1,h2,h3,h4,h5,h6.of_steps ?_⟩;refine Steps.trans first (Steps.trans (.one step_seq) (Steps.trans (.one (step_cond (t:=true) htb)) (Steps.trans (.one step_skip) (Steps.trans (.one step_block) (Steps.trans (.one step_seq) ?_)))));refine Steps.trans (vU h8 fr _ cs) (Steps.trans (.one step_seq) (Steps.trans (vU h9 fr _ cs) (Steps.trans (.one (step_cond (t:=false) htg)) (Steps.trans (.one step_skip) (Steps.trans (.one step_inBlock) (.one step_inLoop))))))
theorem Fx {cf:eu} (hcf:jI P cf) {has:Nat→Bool} {call:fM} (hs:jV P call) {ops:Array Oper} {n:Nat} (hn2:n≤512) (hg:dx n ops=true):∀(l:List Oper) (k:Nat) {R:RT} {O:OT} {nx:Nat} {kk:VK} {a},
 Gx cf has call ops l R O nx kk=some a→(∀i o,l[i]? = some o→ops[k+i]? = some o)→
 ∃R' O' nx',kk R' O' nx'=some a∧∀{κ:bB} {φ:bJ} {w:World} {act:Act} {Q:Exit→Act→World→Prop} {rest:List Nat},aC κ φ w (mY n R O) act→
  (∀a' w' κ' φ',aC κ' φ' w' (mY n R' O') a'→Fr κ w κ' w'→Kp φ O.fn φ' O'.fn→wpOps P ops Q rest a' w')→wpOps P ops Q (List.range' k l.length++rest) act w
 | [],k,R,O,nx,kk,a,h,hl=>⟨R,O,nx,h,fun F hk=>hk _ _ _ _ F (Fr.refl _ _) (Kp.refl _ _)⟩
 | o::r,k,R,O,nx,kk,a,h,hl=>by
   have h:Sj cf has call ops o R O nx (fun R O nx=>Gx cf has call ops r R O nx kk)=some a:=h;obtain ⟨vc,R1,O1,zU,hv,h1,h2⟩:=Mg hs h;obtain ⟨R2,O2,ZR,h3,h4⟩:=Fx hcf hs hn2 hg r (k+1) h2 (fun i o' hi=>by have:=hl (i+1) o' (by simpa using hi);rw [←this];congr 1;omega);refine ⟨R2,O2,ZR,h3,fun F hk=>?_⟩;have hk0:ops[k]? = some o:=by simpa using hl 0 o rfl
   simp only [List.length_cons,List.range'_succ,List.cons_append];rw [wpOps_cons];refine CV hcf hv F h1 hk0 (bZ hg) hn2 (fun a' w' κ' φ' g1 g2 g3=>?_);exact h4 g1 (fun a2 w2 κ2 φ2 k1 k2 k3=>hk a2 w2 κ2 φ2 k1 (g2.trans k2) (g3.trans k3))
def noF:fM:=fun _ _ _ _ _=>none
theorem Ug:jV P noF:=fun _ _ _ _ _ _ h=>by cases h
theorem BA:∀(ws:List Nat) (R:RT),(∀d∈ws,d < 512)→(forget ws R).fn=fun t=>if t∈ws then .bot else R.fn t
 | [],R,_=>by funext t;simp [forget]
 | d::r,R,h=>by
   have:forget (d::r) R=forget r (R.put d .bot):=rfl
   rw [this,BA r _ (fun x hx=>h x (by simp [hx])),RT.sG (h d (by simp))];funext t;by_cases h1:t∈r
   ·simp [h1]
   ·simp only [h1,if_false,jl,List.mem_cons,or_false]
theorem aC.QA {κ:bB} {φ:bJ} {w w' : World} {s:bQ} {a:Act} (F:aC κ φ w s a) {o:Obj} (hw:w'.heap=w.heap.push o):aC κ φ w' s a:=by
 have ne:∀x,x < w.heap.size→w'.heap[x]? = w.heap[x]?:=fun x hx=>by rw [hw,dP hx]
 have iY:∀x,κ x = .dS→κ x = .dS∧w'.heap[x]? = w.heap[x]?:=fun x hx=>⟨hx,ne x (F.bnd.lt x (by rw [hx];simp))⟩
 have M:dW κ φ s.O w.heap κ φ s.O w'.heap:=
  { dS:=iY
    w9:=fun x c ty fz hx=>⟨c,fz,by rw [ne x (jw hx)];exact hx,rfl⟩
    phi:=fun _ _=>rfl
    len:=fun _ _ _ h=>h }
 refine ⟨fun t=>(F.regs t).mono M,fun i=>(F.objs i).mono M (fun x hx=>⟨hx,ne x (F.bnd.lt x (by rw [hx];simp))⟩) rfl,⟨fun x hx=>by rw [hw];simp only [Array.size_push];have:=F.bnd.lt x hx;omega,fun p hp=>?_⟩,F.n,F.df.mono M⟩;obtain ⟨h1,c,ty,fz,h2,h3⟩:=F.bnd.gl p hp;exact ⟨h1,c,ty,fz,by rw [ne p.1 (jw h2)];exact h2,h3⟩
def HY (p:Int) (es:List (DV×DV)):Bool:=es.all fun x=>match x.1 with
 | .int .i64 k=>decide (k≤p)
 | _=>false
theorem X8 {cf:eu} (hcf:jI P cf) {has:Nat→Bool} {n m:Nat} (hn:n≤512) {r6:Nat} {pV:Array Oper} {pre:List Oper} {oR:Oper} {t k0 v0:TypeId} {mx:Nat} {c:sP} {g:kV}
 (h6:pV.toList=pre++[oR]) (hg6:dx n pV=true) (hR:oR.op = .range t (.tmp mx)) (dR:oR.dst=some g.it) (gR:oR.guard=none) (hu:P.underlying t=some (.map k0 v0)) (hc:RgOk c g n)
 {R:RT} {O:OT} {nx:Nat} {kk:VK} {a:RV×OT×Nat} {K:List It} {fin:List (Nat×List RV)→VK} (hK:Good P n m fin K kk)
 (h:Gx cf has noF pV pre R O nx (fun R1 O1 zU=>match R1.fn mx,R1.fn g.pg with
   | .map i,.d (.int .i64 p)=>match O1.fn i with
     | some (.map es)=>bif HY p es then kk (forget g.ws R1) O1 zU else none
     | _=>none
   | _,_=>none)=some a):Ends P n m fin (.code (.seq (.region r6 pV false) (.block c.OL (.loop (c.body g))))::K) R O a:=by
 have hi:∀i o,pre[i]? = some o→pV[0+i]? = some o:=fun i o hio=>by
  rw [Nat.zero_add,←Array.getElem?_toList,h6,List.getElem?_append_left (List.getElem?_eq_some_iff.1 hio).1];exact hio
 obtain ⟨R1,O1,zU,h3,h4⟩:=Fx hcf Ug hn hg6 pre 0 h hi;split at h3
 ·rename_i i p hmx hpg;split at h3
  ·rename_i es hes;cases hk:HY p es with
   | false=>rw [hk] at h3;cases h3
   | true=>
     rw [hk] at h3;obtain ⟨Df1,Rf,Of,nxf,hf,W⟩:=hK _ _ _ _ h3;refine ⟨Df1,Rf,Of,nxf,hf,?_⟩;intro κ φ w a0 F fr cs
     have hlen:List.range pV.size=List.range' 0 pre.length++[pre.length]:=by
      have:pV.size=pre.length+1:=by rw [←Array.length_toList,h6];simp
      rw [this,List.range_eq_range',List.range'_concat];simp
     have hoR:pV[pre.length]? = some oR:=by rw [←Array.getElem?_toList,h6];simp
     have aaN:wpOps P pV (fun e a' w2=>e = .normal∧∃κ1 φ1 w1 a1 mb eF clock,aC κ1 φ1 w1 (mY n R1 O1) a1∧Fr κ w κ1 w1∧Kp φ O.fn φ1 O1.fn∧φ1 i = .at mb∧κ1 mb = .own i∧w1.heap[mb]? = some (.map eF clock)∧KM eF es.length∧
      (∀(j:Nat) (x:DV×DV) (e:MapEntry),es[j]? = some x→eF[j]? = some e→DR κ1 w1.heap x.1 e.key∧DR κ1 w1.heap x.2 e.val∧e.born < clock)∧
      w2 = { w1 with heap:=w1.heap.push (.mapIter (some mb) clock #[] clock) }∧a'=a1.put (some g.it) (.pointer (some ⟨w1.heap.size,0,none⟩))) (List.range pV.size) a0 w:=by
      rw [hlen];refine h4 F (fun a1 w1 κ1 φ1 g1 g2 g3=>?_);have ho:=g1.objs i;have hes' : (mY n R1 O1).O i=some (.map es):=hes;rw [hes'] at ho;obtain ⟨mb,eF,clock,k1,k2,k3,k4,k5⟩:=ho
      have hv:a1.eval (.tmp mx) = .map (some mb):=by
       have:=g1.regs mx
       have e:(mY n R1 O1).R mx = .map i:=hmx;rw [e] at this
       show a1.tmps.getD mx undef=_
       generalize a1.tmps.getD mx undef=v at this;cases this with
       | map hφ=>rw [k1] at hφ;injection hφ with hφ;rw [hφ]
      refine kg hoR gR dR (v:=.pointer (some ⟨w1.heap.size,0,none⟩)) (w':={ w1 with heap:=w1.heap.push (.mapIter (some mb) clock #[] clock) }) ?_ ⟨rfl,κ1,φ1,w1,a1,mb,eF,clock,g1,g2,g3,k1,k2,k3,k4,k5,rfl,rfl⟩;have hg:(getObj mb).run P w1 = .ok (.map eF clock) w1:=by simp [getObj,Sem.run,k3]
      simp only [execOp,hR,hv,Instr.range,Sem.run_bind,aK hu,Result.andThen_ok,Sem.run_pure,hg];rfl
     obtain ⟨e,a2,w2,⟨rfl,κ1,φ1,w1,a1,mb,eF,clock,f1,f2,f3,k1,k2,k3,k4,k5,rfl,rfl⟩,harr⟩:=wp_region (id:=r6) aaN fr (.code (.block c.OL (.loop (c.body g)))::K.map It.item) cs;have X9:=hc.lt;have hit:g.it < n:=X9 g.it (by simp [kV.ws]);have hlt:mb < w1.heap.size:=jw k3
     have hκb:κ1 w1.heap.size = .kW:=by
      cases hx:κ1 w1.heap.size with
      | kW=>rfl
      | dS=>have:=f1.bnd.lt w1.heap.size (by rw [hx];simp);omega
      | own j=>have:=f1.bnd.lt w1.heap.size (by rw [hx];simp);omega
     have Zu:=BA g.ws R1 (fun d hd=>Nat.lt_of_lt_of_le (X9 d hd) hn)
     have F2:aC κ1 φ1 w1 (mY n (forget g.ws R1) O1) a1:=by
      refine aC.weak f1 (R':=(forget g.ws R1).fn) (fun t v hr=>?_);rw [Zu];by_cases ht:t∈g.ws
      ·simp only [ht,if_true];exact .bot _
      ·simp only [ht,if_false];exact hr
     have F3:=(F2.QA (w':={ w1 with heap:=w1.heap.push (.mapIter (some mb) clock #[] clock) }) rfl).lT (d:=g.it) hit (by show (forget g.ws R1).fn g.it = .bot;rw [Zu];simp [kV.ws]) (.pointer (some ⟨w1.heap.size,0,none⟩))
     have hfr2:Fr κ w κ1 { w1 with heap:=w1.heap.push (.mapIter (some mb) clock #[] clock) }:=by
      refine ⟨by simp only [Array.size_push];have:=f2.size;omega,fun x hx=>?_,fun x hx ho=>?_,fun x cc ty fz hx=>?_,f2.os,f2.out⟩
      ·obtain ⟨b1,b2⟩:=f2.dS x hx;exact ⟨b1,(dP (f1.bnd.lt x (by rw [b1];simp))).trans b2⟩
      ·obtain ⟨b1,b2⟩:=f2.kW x hx ho;exact ⟨b1,(dP (Nat.lt_of_lt_of_le hx f2.size)).trans b2⟩
      ·obtain ⟨c',uH,b1,b2⟩:=f2.w9 x cc ty fz hx;exact ⟨c',uH,(dP (jw b1)).trans b1,b2⟩
     have hborn:∀x∈eF.toList,x.born < clock:=fun x hx=>by
      obtain ⟨j,hj⟩:=List.mem_iff_getElem?.1 hx;have hj' : eF[j]? = some x:=by simpa using hj
      have hjl:j < es.length:=by have:=(Array.getElem?_eq_some_iff.1 hj').1;have:=k4.1;omega
      exact (k5 j es[j] x (by simp [hjl]) hj').2.2
     have hkeys:∀x∈eF.toList,∃k:Int,x.key = .int .i64 k∧k≤p:=fun x hx=>by
      obtain ⟨j,hj⟩:=List.mem_iff_getElem?.1 hx;have hj' : eF[j]? = some x:=by simpa using hj
      have hjl:j < es.length:=by have:=(Array.getElem?_eq_some_iff.1 hj').1;have:=k4.1;omega
      have hd:=(k5 j es[j] x (by simp [hjl]) hj').1;have hle:=List.all_eq_true.1 hk es[j] (by simp);split at hle
      ·rename_i kq hq;rw [hq] at hd;generalize x.key=kv at hd ⊢;cases hd;exact ⟨kq,rfl,by simpa using hle⟩
      ·cases hle
     have DK:=hc.pgw
     obtain ⟨e',a',w',κ',φ',s',q1,q2,q3,q4,q5,q6⟩:=Qz (P:=P) (m:=m) hc (K:=K) (s:=mY n (forget g.ws R1) O1) rfl (fun d hd _=>by show (forget g.ws R1).fn d = .bot;rw [Zu];simp [hd]) (p:=p)
      (by show (forget g.ws R1).fn g.pg=_;rw [Zu];simp [DK,hpg]) W (κ0:=κ) (w0:=w) (φ0:=φ) (O0:=O.fn) (b:=w1.heap.size) (mb:=mb) (since:=clock) (clock:=clock) (eF:=eF) f2.size hborn k4.2 hkeys (by omega)
      _ κ1 φ1 _ _ #[] clock rfl F3 hfr2 (f3.m m) hκb (aS _ _) (Nat.le_refl _) (by show (w1.heap.push _)[mb]? = _;rw [dP hlt];exact k3) (Nat.le_refl _) (jf (by rw [f1.n];rfl) hit) fr cs
     refine ⟨e',a',w',κ',φ',s',q1,q2,q3,q4,q5,q6.of_steps ?_⟩;exact Steps.trans (.one step_seq) (Steps.trans harr (Steps.trans (.one step_block) (.one step_loop)))
  ·cases h3
 ·cases h3
structure qM where
 r6:Nat
 pV:Array Oper
 pre:List Oper
 mx:Nat
 t:TypeId
 c:sP
 g:kV
structure vV (P:Program) (n:Nat) (q:qM):Prop where
 h6:∃oR,q.pV.toList=q.pre++[oR]∧oR.op = .range q.t (.tmp q.mx)∧oR.dst=some q.g.it∧oR.guard=none
 hg:dx n q.pV=true
 hu:∃k v,P.underlying q.t=some (.map k v)
 hc:RgOk q.c q.g n
noncomputable def RB (cf:eu) (q:qM):List (Nat×VK)→VK→VK:=fun _ kk R O nx=>
 Gx cf (fun _=>false) noF q.pV q.pre R O nx (fun R1 O1 zU=>match R1.fn q.mx,R1.fn q.g.pg with
  | .map i,.d (.int .i64 p)=>match O1.fn i with
    | some (.map es)=>bif HY p es then kk (forget q.g.ws R1) O1 zU else none
    | _=>none
  | _,_=>none)
theorem HZ {cf:eu} (hcf:jI P cf) {n m:Nat} (hn:n≤512) {q:qM} (hq:vV P n q) {fin:List (Nat×List RV)→VK} {K:List It} {e:List (Nat×VK)} {kk:VK} (hK:Good P n m fin K kk) :
 Good P n m fin (.code (.seq (.region q.r6 q.pV false) (.block q.c.OL (.loop (q.c.body q.g))))::K) (RB cf q e kk):=by
 intro R O nx a h;obtain ⟨oR,h1,h2,h3,h4⟩:=hq.h6;obtain ⟨k,v,hu⟩:=hq.hu;exact X8 hcf hn h1 hq.hg h2 h3 h4 hu hq.hc hK h
def pieces:Code→List (Code×Code)
 | .seq x y=>(x,y)::(pieces x++pieces y)
 | .cond _ x y=>pieces x++pieces y
 | .block _ x=>pieces x
 | .loop x=>pieces x
 | .scope x=>pieces x
 | _=>[]
theorem Sub.pieces {b c:Code} (h:Sub b c):∀z∈Am.pieces c,z∈Am.pieces b:=by
 induction h with
 | refl=>exact fun z hz=>hz
 | X5 _ ih=>exact fun z hz=>ih z (by simp only [Am.pieces,List.mem_cons,List.mem_append];exact .inr (.inl hz))
 | X6 _ ih=>exact fun z hz=>ih z (by simp only [Am.pieces,List.mem_cons,List.mem_append];exact .inr (.inr hz))
 | Rz _ ih=>exact fun z hz=>ih z (by simp only [Am.pieces,List.mem_append];exact .inl hz)
 | RA _ ih=>exact fun z hz=>ih z (by simp only [Am.pieces,List.mem_append];exact .inr hz)
 | block _ ih=>exact fun z hz=>ih z hz
 | loop _ ih=>exact fun z hz=>ih z hz
 | scope _ ih=>exact fun z hz=>ih z hz
def Fy (r:Nat):Code→Bool
 | .region i _ _=>Nat.beq i r
 | _=>false
noncomputable def H6 (cf:eu) (q:qM):zV:=fun x _=>bif Fy q.r6 x then some (RB cf q) else none
theorem Kj {cf:eu} (hcf:jI P cf) {n m:Nat} (hn:n≤512) {q:qM} (hq:vV P n q) {fin:List (Nat×List RV)→VK} {body:Code}
 (hp:(pieces body).filter (fun z=>Fy q.r6 z.1)=[(.region q.r6 q.pV false,.block q.c.OL (.loop (q.c.body q.g)))]):vS P n m fin body (H6 cf q):=by
 intro x y f hf hS k e kk hk _;unfold H6 at hf;cases hr:Fy q.r6 x with
 | false=>rw [hr] at hf;cases hf
 | true=>
   rw [hr] at hf;simp only [cond_true,Option.some.injEq] at hf;subst hf
   have hm:(x,y)∈(pieces body).filter (fun z=>Fy q.r6 z.1):=by
    rw [List.mem_filter];exact ⟨hS.pieces (x,y) (by simp [Am.pieces]),hr⟩
   rw [hp] at hm;simp only [List.mem_cons,List.mem_nil_iff,or_false,Prod.mk.injEq] at hm;obtain ⟨rfl,rfl⟩:=hm;exact HZ hcf hn hq hk
end Go.Am
namespace Go.Proofs.YtjoefbioobdinaaGreatDoor
open Go.RowKit Am
set_option maxRecDepth 1000000
noncomputable def zo:Code:=((Tryz.prog.funcs[351]?).bind (·.body)).getD .skip
def aY (r:Nat):Code→Option (Array Oper)
 | .region i ops _=>bif Nat.beq i r then some ops else none
 | .seq x y=>match aY r x with
   | some a=>some a
   | none=>aY r y
 | .cond _ x y=>match aY r x with
   | some a=>some a
   | none=>aY r y
 | .block _ x=>aY r x
 | .loop x=>aY r x
 | .scope x=>aY r x
 | _=>none
def pW (t:Nat):Code→Option Code
 | .cond (.tmp u) x y=>bif Nat.beq u t then some x else match pW t x with
   | some a=>some a
   | none=>pW t y
 | .seq x y=>match pW t x with
   | some a=>some a
   | none=>pW t y
 | .block _ x=>pW t x
 | .loop x=>pW t x
 | .scope x=>pW t x
 | _=>none
noncomputable def Fz (r:Nat):Array Oper:=(aY r zo).getD #[]
noncomputable def qX (r k:Nat):Oper:=((Fz r)[k]?).getD default
noncomputable def rzC:sP:=⟨7,Fz 7,0,1,8,Fz 8,9,Fz 9,(pW 33 zo).getD .skip⟩
def rzG:kV:=⟨26,27,28,29,30,6,31,32,33,1⟩
noncomputable def Uh:qM:=⟨6,Fz 6,[qX 6 0,qX 6 1,qX 6 2,qX 6 3,qX 6 4,qX 6 5,qX 6 6],25,413,rzC,rzG⟩
theorem Ya:vV Tryz.prog 71 Uh where
 h6:=⟨qX 6 7,by kernel_rfl,by kernel_rfl,by kernel_rfl,by kernel_rfl⟩
 hg:=by kernel_rfl
 hu:=⟨3,9,by kernel_rfl⟩
 hc:=
  { o7:=⟨qX 7 0,qX 7 1,by kernel_rfl,by kernel_rfl,by kernel_rfl,by kernel_rfl,by kernel_rfl,by kernel_rfl,by kernel_rfl⟩
    o8:=⟨qX 8 0,qX 8 1,qX 8 2,by kernel_rfl,by kernel_rfl,by kernel_rfl,by kernel_rfl,by kernel_rfl,by kernel_rfl,by kernel_rfl,by kernel_rfl,by kernel_rfl,by kernel_rfl⟩
    o9:=⟨qX 9 0,qX 9 1,qX 9 2,3,3,by kernel_rfl,by kernel_rfl,by kernel_rfl,by kernel_rfl,by kernel_rfl,by kernel_rfl,by kernel_rfl,by kernel_rfl,by kernel_rfl,by kernel_rfl⟩
    lt:=by decide
    pgw:=by decide
    nodup:=by decide }
theorem NU:(pieces zo).filter (fun z=>Fy 6 z.1)=[(.region Uh.r6 Uh.pV false,.block Uh.c.OL (.loop (Uh.c.body Uh.g)))]:=by kernel_rfl
theorem QB:(Tryz.prog.funcs[351]?).map (fun f=>Nat.beq f.ntmps 71)=some true:=by kernel_rfl
noncomputable def fnT:Nat→Option Func:=fun g=>Tryz.prog.funcs[g]?
theorem iB:Tryz.prog.follows .mixedOrders=true:=by kernel_rfl
end Go.Proofs.YtjoefbioobdinaaGreatDoor
namespace Go.Am
set_option linter.unusedSectionVars false
variable {P:Program} [Gl]
structure Row where
 g:Nat
 args:List RV
 objs:List ay
 r:RV
 os:List ay
noncomputable def hx (n x:Nat):List UInt8:=
 Nat.rec (motive:=fun _=>Nat→List UInt8) (fun _=>[]) (fun _ ih x=>UInt8.ofNat (Nat.mod x 256)::Nat.rec (motive:=fun _=>List UInt8) (ih 0) (fun m _=>ih (Nat.succ m)) (Nat.div x 256)) n x
def Row.C (P:Program) (q:Row):Prop:=Go.Am.C P q.g q.args q.objs (fun r o=>r=q.r∧o=q.os)
noncomputable def aM (base:uI):List Row→uI:=fun l=>List.rec (motive:=fun _=>uI) base (fun q _ ih f a o=>
 Bool.rec (motive:=fun _=>Option (RV×List ay×List Bool)) (ih f a o)
  (Bool.rec (motive:=fun _=>Option (RV×List ay×List Bool)) (ih f a o) (some (q.r,q.os,[])) (wD (uW 8) q.args a&&wD Gb q.objs o)) (Nat.beq q.g f)) l
theorem aD {base:uI} {l:List Row} {q:Row} (hl:aX P (aM base l)) (hq:q.C P):aX P (aM base (q::l)):=by
 intro f a o r o' c h hc
 have h:Bool.rec (motive:=fun _=>Option (RV×List ay×List Bool)) (aM base l f a o)
  (Bool.rec (motive:=fun _=>Option (RV×List ay×List Bool)) (aM base l f a o) (some (q.r,q.os,[])) (wD (uW 8) q.args a&&wD Gb q.objs o)) (Nat.beq q.g f)=some (r,o',c):=h
 cases h1:Nat.beq q.g f with
 | false=>rw [h1] at h;exact hl f a o r o' c h hc
 | true=>
   rw [h1] at h;cases h2:(wD (uW 8) q.args a&&wD Gb q.objs o) with
   | false=>rw [h2] at h;exact hl f a o r o' c h hc
   | true=>
     rw [h2] at h;simp only [Option.some.injEq,Prod.mk.injEq] at h;obtain ⟨rfl,rfl,rfl⟩:=h;simp only [Bool.and_eq_true] at h2;have e1:=bV h1;have e2:=gK (qo 8) _ _ h2.1;have e3:=gK uX _ _ h2.2;subst e1;subst e2;subst e3;exact hq
def NV (x:Option (RV×List ay×List Bool)) (r:RV) (os:List ay):Bool:=
 match x with
 | some (r2,o2,[])=>uW 8 r2 r&&wD Gb o2 os
 | _=>false
theorem H7 {x:Option (RV×List ay×List Bool)} {r:RV} {os:List ay} (h:NV x r os=true):x=some (r,os,[]):=by
 unfold NV at h;split at h
 ·simp only [Bool.and_eq_true] at h;rw [qo 8 _ _ h.1,gK uX _ _ h.2]
 ·cases h
def NW (mask g:Nat):Bool:=Nat.beq (Nat.mod (Nat.shiftRight mask g) 2) 1
def di (n:Nat):RV:=.d (.int .i64 (Int.ofNat n))
def ds (s:List UInt8):RV:=.d (.str s)
def db (b:Bool):RV:=.d (.bool b)
def vi (n:Nat):DV:=.int .i64 (Int.ofNat n)
end Go.Am
namespace Go.Proofs.YtjoefbioobdinaaGreatDoor
open Go.RowKit Am
set_option maxRecDepth 1000000
noncomputable def cfK (K:uI):eu:={ E:=Env.of Tryz.prog,K:=K,dw:=fun _=>true,eY:=fun f=>eY Tryz.prog f,vm:=true,diff:=true }
noncomputable def H8 (K:uI):Nat→zV:=fun g=>bif Nat.beq g 351 then H6 (cfK K) Uh else fun _ _=>none
theorem NY {K:uI} (h:aX Tryz.prog K):jI Tryz.prog (cfK K):=⟨rfl,h,fun _ h=>h⟩
theorem Kk {K:uI} (h:aX Tryz.prog K):∀g f body,fnT g=some f→f.body=some body→∀fin,vS Tryz.prog f.ntmps 1048576 fin body (H8 K g):=by
 intro g f body hf hb fin;unfold H8;cases hg:Nat.beq g 351 with
 | false=>intro x y f hx;cases hx
 | true=>
   have:=bV hg;subst this
   have hf' : Tryz.prog.funcs[351]? = some f:=hf
   have hn:f.ntmps=71:=by
    have:=QB
    rw [hf'] at this;exact bV (by simpa using this)
   have hbd:body=zo:=by
    unfold zo;rw [hf'];simp [hb]
   subst hbd;rw [hn];exact Kj (NY h) (by decide) Ya NU
noncomputable def bP (K:uI) (mask:Nat) (q:Row):Bool:=NV (JQ (C9 (Hz (H8 K) fnT (cfK K) (NW mask) 100000 60)) q.g q.args q.objs) q.r q.os
theorem bS {K:uI} (hK:aX Tryz.prog K) {mask:Nat} {q:Row} (h:bP K mask q=true):q.C Tryz.prog:=
 HV (NY hK) iB (Kk hK) (fun _ _ h=>h) (NW mask) 100000 60 (H7 h)
end Go.Proofs.YtjoefbioobdinaaGreatDoor
namespace Go.Proofs.YtjoefbioobdinaaGreatDoor
open Go.RowKit Am
set_option maxRecDepth 100000
theorem uy:(Tryz.prog.info? 135).map (fun i=>decide (i.size≠0))=some true:=by kernel_rfl
theorem Du:liesAt Tryz.prog Tryz.prog.depth 135 (2 / Tryz.prog.cellsOf 135) 0 135 1=true:=by kernel_rfl
theorem NZ:liesAt Tryz.prog Tryz.prog.depth 653 (2 / Tryz.prog.cellsOf 653) 0 135 1=true:=by kernel_rfl
def zW (T:Nat):Bool:=Nat.beq T 135||Nat.beq T 653
theorem Ui {T:Nat} (h:zW T=true):liesAt Tryz.prog Tryz.prog.depth T (2 / Tryz.prog.cellsOf T) 0 135 1=true:=by
 simp only [zW,Bool.or_eq_true] at h;rcases h with h | h
 ·rw [bV h];exact Du
 ·rw [bV h];exact NZ
theorem Dv:Tryz.prog.cellsOf 5=1:=by kernel_rfl
set_option maxHeartbeats 1000000 in
theorem He (b:Nat) (w:World) (h0:w.cell? ⟨b,0,none⟩=some (.pointer (some ⟨b,0,none⟩))) :
 Calls Tryz.prog 144 #[.pointer (some ⟨b,0,none⟩)] w fun e w'=>e = .returned (.tuple #[])∧w'=w:=by
 obtain ⟨j,hj,_⟩:=Option.map_eq_some_iff.1 uy
 go_enter Tryz.func144,Tryz.ntmps144
 go_wp2
 rw [Lib.run_neq_ptr_same w _ Tryz.underlying133 hj]
 go_wp2
 go_end0
 exact ⟨rfl,rfl⟩
set_option maxHeartbeats 1000000 in
theorem Dw {T:Nat} (hT:zW T=true) (b:Nat) (w:World) (h0:w.cell? ⟨b,0,none⟩=some (.pointer none)) (hsh:w.shape? b=some (T,2)) (hfz:w.frozen? ⟨b,0,none⟩=false) :
 Calls Tryz.prog 144 #[.pointer (some ⟨b,0,none⟩)] w fun e w'=>e = .returned (.tuple #[])∧w'=w.setCell ⟨b,0,none⟩ (.pointer (some ⟨b,0,none⟩)):=by
 obtain ⟨j,hj,hjs⟩:=Option.map_eq_some_iff.1 uy
 go_enter Tryz.func144,Tryz.ntmps144
 go_wp2
 rw [Lib.run_to_unsafe w ⟨b,0,none⟩ Tryz.underlying133 Tryz.underlying302 hj (by simpa using hjs) hsh (Nat.zero_lt_succ 1)];simp only [Result.andThen];rw [Oper.upon_value]
 go_wp2
 rw [run_callFunc_extern Tryz.func204 (by kernel_rfl) (by kernel_rfl) (by kernel_rfl) (e:=Extern.AbiNoEscape.same) (by kernel_rfl)];rw [Lib.run_noEscape];simp only [Result.andThen];rw [Oper.upon_value]
 go_wp2
 rw [Lib.run_from_unsafe w ⟨b,0,none⟩ Tryz.underlying302 Tryz.underlying133 hj hsh (Ui hT)];simp only [Result.andThen];rw [Oper.upon_value]
 go_wp2
 go_end0
 exact ⟨rfl,rfl⟩
set_option maxHeartbeats 2000000 in
theorem Dx {T:Nat} (b g cap n0:Nat) (l:List UInt8) (p:Value) (w:World) (Q:World→Prop) (fz:Nat×Nat) (cur:Array Value) (hne:l≠[]) (hcap:l.length≤cap) (h63:l.length≤9223372036854775807)
 (hb:w.heap[b]? = some (.cells #[p,.slice (some ⟨g,0,none⟩) l.length cap] T (0,0))) (hg:w.heap[g]? = some (.cells cur 5 fz)) (hsz:cur.size=n0) (hn0:l.length≤n0)
 (hcell:∀(j:Nat) (y:UInt8),l[j]? = some y→w.cell? ((⟨g,0,none⟩:Addr).add j)=some (.int .u8 y.toNat)) (hQ:Q (w.drew.freeze ⟨g,0,none⟩ l.length)) :
 Calls Tryz.prog 90 #[.pointer (some ⟨b,0,none⟩)] w fun e w'=>e = .returned (.string ⟨l.toArray⟩)∧Q w':=by
 have hpos:0 < l.length:=List.length_pos_iff.2 hne
 have c1:w.drew.cell? ⟨b,1,none⟩=some (.slice (some ⟨g,0,none⟩) l.length cap):=by
  have:w.drew.heap[b]? = some (.cells #[p,.slice (some ⟨g,0,none⟩) l.length cap] T (0,0)):=hb
  rw [Lib.cell_of_heap this];rfl
 have hSD:(Builtin.unsafeSliceData_ #[130] 212 #[.slice (some ⟨g,0,none⟩) l.length cap]).run Tryz.prog w.drew = .ok (.pointer (some ⟨g,0,none⟩)) w.drew:=
  Lib.run_unsafeSliceData_row _ _ _ _ _ _ (by omega)
 have hUS:(Builtin.unsafeString_ #[212,3] 9 #[.pointer (some ⟨g,0,none⟩),.int .i64 l.length]).run Tryz.prog w.drew = .ok (.string ⟨l.toArray⟩) (w.drew.freeze ⟨g,0,none⟩ l.length):=
  Lib.run_unsafeString_row w.drew _ _ _ 5 Tryz.underlying212 Dv g cur.size (by have hg' : w.drew.heap[g]? = some (.cells cur 5 fz):=hg;simp [World.shape?,hg']) l hne (by omega) h63 hcell
 have HQ:=Lib.hid hQ;clear hQ hcell hg hb hsz hn0 hcap h63 hne hpos
 go_enter Tryz.func90,Tryz.ntmps90
 go_wp2
 go_region
 all_goals (go_wp2;go_ret;exact ⟨rfl,HQ.out⟩)
set_option maxHeartbeats 2000000 in
theorem Dy {T:Nat} (b:Nat) (p:Value) (w:World) (Q:World→Prop) (hb:w.heap[b]? = some (.cells #[p,.slice none 0 0] T (0,0))) (hQ:Q w.drew) :
 Calls Tryz.prog 90 #[.pointer (some ⟨b,0,none⟩)] w fun e w'=>e = .returned (.string ⟨#[]⟩)∧Q w':=by
 have hUS:∀W:World,(Builtin.unsafeString_ #[212,3] 9 #[.pointer none,.int .i64 0]).run Tryz.prog W = .ok (.string .empty) W:=fun W=>Lib.run_unsafeString_none W _ _ _ none
 have c1:w.drew.cell? ⟨b,1,none⟩=some (.slice none 0 0):=by
  have:w.drew.heap[b]? = some (.cells #[p,.slice none 0 0] T (0,0)):=hb
  rw [Lib.cell_of_heap this];rfl
 have hSD:(Builtin.unsafeSliceData_ #[130] 212 #[.slice none 0 0]).run Tryz.prog w.drew = .ok (.pointer none) w.drew:=rfl;have HQ:=Lib.hid hQ;clear hb hQ
 go_enter Tryz.func90,Tryz.ntmps90
 go_wp2
 go_region
 all_goals (go_wp2;go_ret;exact ⟨rfl,HQ.out⟩)
theorem jF {c:Array Value} (h:c.size=2):∃x y,c = #[x,y]:=by
 refine ⟨c[0],c[1],?_⟩;apply Array.ext
 ·simpa using h
 ·intro i h1 h2
  have:i=0∨i=1:=by simp at h2;omega
  rcases this with rfl | rfl<;>rfl
theorem zi (p q:ay) (r:List ay):bA (aR (p::r)) 0 (some q)=aR (q::r):=by
 funext i;cases i with
 | zero=>simp [bA,aR]
 | succ i=>simp [bA,aR]
theorem zk (p q q' : ay) (r:List ay):bA (aR (p::q::r)) 1 (some q')=aR (p::q'::r):=by
 funext i
 match i with
 | 0=>simp [bA,aR]
 | 1=>simp [bA,aR]
 | i+2=>simp [bA,aR]
theorem Hf {T:Nat} (hT:zW T=true) (x y:RV) (r:List ay) (hx:x = .d .aG∨x = .ptr 0 0):C Tryz.prog 144 [.ptr 0 0] (.box T [x,y]::r) (fun v o=>v = .d (.aZ [])∧o = .box T [.ptr 0 0,y]::r):=by
 intro κ φ w vs h1 h2 h3 h4;have hs:vs.size=1:=by simpa using h3
 have e1:vs[0]? = some vs[0]:=by simp [show 0 < vs.size by omega]
 have r0:=h4 0 _ _ rfl e1
 have hvs:vs = #[vs[0]]:=by
  apply Array.ext
  ·simpa using hs
  ·intro i hi hi2;simp at hi2;subst hi2;rfl
 rw [hvs];generalize vs[0]=v0 at r0;clear e1 hvs;cases r0 with
 | ptr hφ=>
 rename_i b;have ho:=h1 0;have et:aR (ay.box T [x,y]::r) 0=some (.box T [x,y]):=rfl;rw [et] at ho;obtain ⟨b',c,g1,g2,g3,g4,g5,g6⟩:=ho;rw [g1] at hφ;injection hφ with hφ;subst hφ;obtain ⟨c0,c1,rfl⟩:=jF (by simpa using g4);have q0:=g6 0 x c0 rfl rfl;have q1:=g6 1 y c1 rfl rfl;have F:=kD h1 h2;rcases hx with rfl | rfl
 ·cases q0 with
  | d hr=>
  cases hr;refine (Dw hT b' w (by rw [Lib.cell_of_heap g3];rfl) (by simp [World.shape?,g3]) (Lib.frozen_of_heap g3 0)).mono ?_
  rintro e w' ⟨rfl,rfl⟩
  rw [mg g3]
  obtain ⟨p1,p2,p3⟩:=F.write (i:=0) (p:=.box T [.ptr 0 0,y]) (o:=.cells #[.pointer (some ⟨b',0,none⟩),c1] T (0,0)) g2 g1
   (fun c ty fz hh=>by rw [g3] at hh;injection hh with hh;injection hh with a1 a2 a3;subst a1;subst a2;exact ⟨_,_,rfl,rfl⟩) (fun n hn=>by simp [ay.dn] at hn)
   (fun M=>⟨b',_,g1,g2,dO g3,rfl,fun v hv=>by
     simp at hv;rcases hv with rfl | rfl
     ·rfl
     ·exact g5 _ (by simp),fun j x v hx hv=>by
     match j,hx,hv with
     | 0,hx,hv=>simp at hx hv;subst hx;subst hv;exact .ptr g1
     | 1,hx,hv=>simp at hx hv;subst hx;subst hv;exact q1.mono M
     | j+2,hx,hv=>simp at hx⟩)
  have Ke:bA (aR (ay.box T [.d .aG,y]::r)) 0 (some (.box T [.ptr 0 0,y]))=aR (.box T [.ptr 0 0,y]::r):=zi _ _ _;simp only [Ke] at p1 p2;exact ⟨_,_,_,κ,φ,rfl,⟨rfl,rfl⟩,.d (.aZ rfl (by simp)),p1.objs,p1.bnd,by simp,p3,p2.kp⟩
 ·cases q0 with
  | ptr hp=>
  rename_i b2
  have:b2=b':=by rw [g1] at hp;injection hp with hp;exact hp.symm
  subst this;refine (He b2 w (by rw [Lib.cell_of_heap g3];rfl)).mono ?_
  rintro e w' ⟨rfl,rfl⟩
  exact ⟨_,_,_,κ,φ,rfl,⟨rfl,rfl⟩,.d (.aZ rfl (by simp)),h1,h2,by simp,Fr.refl _ _,Kp.refl _ _⟩
def FI:DV→Bool
 | .int .u8 n=>decide (0≤n∧n < 256)
 | _=>false
theorem pR {x:DV} (h:FI x=true):x = .int .u8 (x.byte.toNat:Int):=by
 unfold FI at h;split at h
 ·rename_i n;simp only [decide_eq_true_eq] at h;simp only [DV.byte,DV.int.injEq,true_and]
  have:n.toNat < 256:=by omega
  rw [UInt8.toNat_ofNat_of_lt' (by simpa using this)];omega
 ·cases h
theorem Fp {x:DV} (h:FI x=true):x.cells=[x]:=by rw [pR h];rfl
def QC:RV→Bool
 | .d x=>FI x
 | _=>false
def wL:RV→UInt8
 | .d x=>x.byte
 | _=>0
theorem Kl {x:RV} (h:QC x=true):x = .d (.int .u8 ((wL x).toNat:Int)):=by
 unfold QC at h;split at h
 ·rename_i y;simp only [wL];rw [←pR h]
 ·cases h
theorem Nr {T:Nat} (p:RV) (len:Nat) (cap:Option Nat) (cs:List RV) (r:List ay) (hb:(cs.take len).all QC=true) (hlen:len≤cs.length) (hne:0 < len) (hbig:len≤1099511627776):C Tryz.prog 90 [.ptr 0 0] (.box T [p,.sl 1 1 0 len cap] :: .bO 5 cs::r)
 (fun v o=>v = .d (.str ((cs.take len).map wL))∧o = .box T [p,.sl 1 1 0 len cap] :: .gone::r):=by
 intro κ φ w vs h1 h2 h3 h4;obtain ⟨v0,rfl,r0⟩:=arg1 h3 h4;cases r0 with
 | ptr hφ=>
 rename_i b;have ho:=h1 0;have et:aR (ay.box T [p,.sl 1 1 0 len cap] :: .bO 5 cs::r) 0=some (.box T [p,.sl 1 1 0 len cap]):=rfl;rw [et] at ho;obtain ⟨b',c,g1,g2,g3,g4,g5,g6⟩:=ho;rw [g1] at hφ;injection hφ with hφ;subst hφ;obtain ⟨c0,c1,rfl⟩:=jF (by simpa using g4);have q1:=g6 1 (.sl 1 1 0 len cap) c1 rfl rfl;have ho1:=h1 1;have Zp:aR (ay.box T [p,.sl 1 1 0 len cap] :: .bO 5 cs::r) 1=some (.bO 5 cs):=rfl;rw [Zp] at ho1;obtain ⟨g,cur,fz,k1,k2,k3,k4,k5⟩:=ho1;cases q1 with
 | sl hp hb0 ho' hs hl hcc hnn=>
   rename_i g' o' fC c' ty' uH
   have:g'=g:=by rw [k1] at hp;injection hp with hp;exact hp.symm
   subst this;have hoo:o'=0:=by rcases ho' with h | h<;>omega
   subst hoo;rw [k3] at hb0;injection hb0 with hb0;injection hb0 with a1 a2 a3;subst a1;subst a2;subst a3;have hlm:((cs.take len).map wL).length=len:=by simp;omega
   have F:=kD h1 h2;obtain ⟨k51,k53⟩:=k5
   have hcells:∀(j:Nat) (y:UInt8),((cs.take len).map wL)[j]? = some y→w.cell? ((⟨g',0,none⟩:Addr).add j)=some (.int .u8 y.toNat):=by
    intro j y hy;have hj:j < len:=by have:=(List.getElem?_eq_some_iff.1 hy).1;omega
    have hx:cs[j]? = some cs[j]:=by simp [show j < cs.length by omega]
    have hxt:(cs.take len)[j]? = some cs[j]:=by rw [List.getElem?_take,if_pos hj];exact hx
    have hB:=List.all_eq_true.1 hb cs[j] (List.mem_of_getElem? hxt);have hcj:cur[j]? = some cur[j]:=by simp [show j < cur.size by omega]
    have hd:=(k53 j cs[j] cur[j] hx (by rw [Nat.zero_add];exact hcj)).1;rw [Kl hB] at hd;rw [gU,Am.qc k3,Nat.zero_add,hcj];have WQ:y=wL cs[j]:=by rw [List.getElem?_map,hxt] at hy;simpa using hy.symm
    subst WQ;generalize cur[j]=cv at hd;cases hd with
    | d hd=>cases hd;rfl
   have hw' : ∀(k:Nat),k≠g'→(w.drew.freeze ⟨g',0,none⟩ len).heap[k]? = w.heap[k]?:=by
    intro k hk;unfold World.freeze;split
    ·rfl
    ·simp only [Array.getElem?_modify];rw [if_neg (fun e=>hk e.symm)];rfl
   have hwg:∃Q0,(w.drew.freeze ⟨g',0,none⟩ len).heap[g']? = some (.cells cur 5 Q0):=by
    have XU : w.drew.heap[g']? = some (.cells cur 5 fz):=k3;unfold World.freeze;split
    ·exact ⟨_,XU⟩
    ·simp only [Array.getElem?_modify,XU];simp
   have hsz:(w.drew.freeze ⟨g',0,none⟩ len).heap.size=w.heap.size:=by unfold World.freeze;split<;>simp
   have hos:(w.drew.freeze ⟨g',0,none⟩ len).os=w.os∧(w.drew.freeze ⟨g',0,none⟩ len).output=w.output:=by unfold World.freeze;split<;>exact ⟨rfl,rfl⟩
   refine (Dx b' g' fC cur.size ((cs.take len).map wL) c0 w (fun w'=>w'=w.drew.freeze ⟨g',0,none⟩ len) fz cur (by intro e;rw [e] at hlm;simp at hlm;omega) (by rw [hlm];exact hl) (by rw [hlm];omega) (by rw [hlm];exact g3) k3 rfl (by rw [hlm];omega) hcells (by rw [hlm])).mono ?_
   rintro e w' ⟨rfl,rfl⟩
   obtain ⟨Q0,hwg⟩:=hwg
   obtain ⟨p1,p2,p3⟩:=F.wS (i:=1) (p:=.gone) (κ':=κ) (φ':=φ) (w':=w.drew.freeze ⟨g',0,none⟩ len) (by omega) (fun _ h=>h) (fun _ _ _ _ h=>h) (fun _ _ h=>h)
    (fun k _ hk _=>hw' k (fun e=>by subst e;exact hk k2)) (fun _ _=>rfl) (fun _=>rfl)
    (fun k c ty fz hk=>by
      by_cases e:k=g'
      ·subst e;rw [k3] at hk;injection hk with hk;injection hk with a1 a2 a3;subst a1;subst a2;exact ⟨_,_,hwg,rfl⟩
      ·exact ⟨c,fz,by rw [hw' k e];exact hk,rfl⟩) (fun _ n hn=>by simp [ay.dn] at hn) (fun k hk=>by rw [hsz];exact h2.lt k hk) (fun _=>trivial) hos
   have Ke:bA (aR (ay.box T [p,.sl 1 1 0 len cap] :: .bO 5 cs::r)) 1 (some .gone)=aR (.box T [p,.sl 1 1 0 len cap] :: .gone::r):=zk _ _ _ _;simp only [Ke] at p1 p2;exact ⟨_,_,_,κ,φ,rfl,⟨rfl,rfl⟩,.d (.str _),p1.objs,p1.bnd,by simp,p3,p2.kp⟩
theorem Hg {T:Nat} (p:RV) (r:List ay):C Tryz.prog 90 [.ptr 0 0] (.box T [p,.d (.aF 0 [] true)]::r)
 (fun v o=>v = .d (.str [])∧o = .box T [p,.d (.aF 0 [] true)]::r):=by
 intro κ φ w vs h1 h2 h3 h4;have hs:vs.size=1:=by simpa using h3
 have e1:vs[0]? = some vs[0]:=by simp [show 0 < vs.size by omega]
 have r0:=h4 0 _ _ rfl e1
 have hvs:vs = #[vs[0]]:=by
  apply Array.ext
  ·simpa using hs
  ·intro i hi hi2;simp at hi2;subst hi2;rfl
 rw [hvs];generalize vs[0]=v0 at r0;clear e1 hvs;cases r0 with
 | ptr hφ=>
 rename_i b;have ho:=h1 0;have et:aR (ay.box T [p,.d (.aF 0 [] true)]::r) 0=some (.box T [p,.d (.aF 0 [] true)]):=rfl;rw [et] at ho;obtain ⟨b',c,g1,g2,g3,g4,g5,g6⟩:=ho;rw [g1] at hφ;injection hφ with hφ;subst hφ;obtain ⟨c0,c1,rfl⟩:=jF (by simpa using g4);have q1:=g6 1 (.d (.aF 0 [] true)) c1 rfl rfl;cases q1 with
 | d hr=>
 have hc1:c1 = .slice none 0 0:=by
  cases hr with
  | iX hf=>have:=hf rfl;rw [this.1,this.2 rfl]
  | aF _ _ hf _ _ _ _=>have:=(hf rfl).2;omega
 subst hc1;have F:=kD h1 h2;refine (Dy b' c0 w (fun w'=>w'=w.drew) g3 rfl).mono ?_
 rintro e w' ⟨rfl,rfl⟩
 exact ⟨_,_,_,κ,φ,rfl,⟨rfl,rfl⟩,.d (.str _),h1,⟨h2.lt,h2.gl⟩,by simp,⟨Nat.le_refl _,fun _ hb=>⟨hb,rfl⟩,fun _ _ hb=>⟨hb,rfl⟩,fun _ c _ fz hc=>⟨c,fz,hc,rfl⟩,rfl,rfl⟩,Kp.refl _ _⟩
def oG:RV→Bool
 | .d .aG=>true
 | .ptr 0 0=>true
 | _=>false
def zl:kZ:=fun a o=>match a,o with
 | [.ptr 0 0],.box T [x,y]::r=>bif zW T&&oG x then some (.d (.aZ []),.box T [.ptr 0 0,y]::r,[]) else none
 | _,_=>none
theorem zm:bY Tryz.prog 144 zl:=by
 intro a o r o' c hg _;unfold zl at hg;split at hg
 ·rename_i T x y rr;cases hb:(zW T&&oG x) with
  | false=>rw [hb] at hg;simp at hg
  | true=>
    rw [hb] at hg;simp only [cond_true,Option.some.injEq,Prod.mk.injEq] at hg;obtain ⟨rfl,rfl,rfl⟩:=hg;simp only [Bool.and_eq_true] at hb;refine Hf hb.1 x y rr ?_
    have:=hb.2
    unfold oG at this;split at this
    ·exact .inl rfl
    ·exact .inr rfl
    ·cases this
 ·cases hg
def Hl:kZ:=fun a o=>match a,o with
 | [.ptr 0 0],.box T [p,.sl 1 1 0 len cap] :: .bO E cs::r=>bif zW T&&Nat.beq E 5 then some (.d (.str ((cs.take len).map wL)),.box T [p,.sl 1 1 0 len cap] :: .gone::r,[(cs.take len).all QC,Nat.ble len cs.length,Nat.ble 1 len,Nat.ble len 1099511627776]) else none
 | [.ptr 0 0],.box T [p,.d (.aF 0 [] true)]::r=>bif zW T then some (.d (.str []),.box T [p,.d (.aF 0 [] true)]::r,[]) else none
 | _,_=>none
theorem Dz:bY Tryz.prog 90 Hl:=by
 intro a o r o' c hg hc;unfold Hl at hg;split at hg
 ·rename_i T p len cap E cs rr;cases hb:(zW T&&Nat.beq E 5) with
  | false=>rw [hb] at hg;simp at hg
  | true=>
    rw [hb] at hg;simp only [cond_true,Option.some.injEq,Prod.mk.injEq] at hg;obtain ⟨rfl,rfl,rfl⟩:=hg;simp only [Bool.and_eq_true] at hb
    have:=bV hb.2;subst this
    simp only [List.mem_cons,List.mem_nil_iff,or_false,forall_eq_or_imp,forall_eq] at hc;exact Nr p len cap cs rr hc.1 (Nat.le_of_ble_eq_true hc.2.1) (Nat.le_of_ble_eq_true hc.2.2.1) (Nat.le_of_ble_eq_true hc.2.2.2)
 ·rename_i T p rr;cases hb:zW T with
  | false=>rw [hb] at hg;simp at hg
  | true=>
    rw [hb] at hg;simp only [cond_true,Option.some.injEq,Prod.mk.injEq] at hg;obtain ⟨rfl,rfl,rfl⟩:=hg;exact Hg p rr
 ·cases hg
theorem Km {P:Program} (w:World) (d:Nat) (t k e:TypeId) (p:Option Nat) (h:P.underlying t=some (.map k e)):(Op.equalIn (d+1) t (.map p) (.map none)).run P w = .ok p.isNone w:=by
 cases p<;>simp [Op.equalIn,run_underlying h]
theorem pX {P:Program} (w:World) (t k e:TypeId) (p:Option Nat) (h:P.underlying t=some (.map k e)):(binOp .eql t (.map p) (.map none)).run P w = .ok (.bool p.isNone) w:=by
 have h3:(Op.equal t (.map p) (.map none)).run P w = .ok p.isNone w:=Km (P:=P) w 9999 t k e p h;simp only [binOp,Sem.run_bind,h3,Result.andThen_ok,Sem.run_pure]
theorem BD {P:Program} (w:World) {r:Nat} {es:Array MapEntry} {clock:Nat} (t:TypeId) (hb:w.heap[r]? = some (.map es clock)) :
 (Extern.MapsClone.clone #[.iface t (.map (some r))]).run P w = .ok (.iface t (.map (some w.heap.size))) (w.alloc (.map es clock)):=by
 have hg:(getObj r).run P w = .ok (.map es clock) w:=by simp [getObj,Sem.run,hb]
 have e:Extern.MapsClone.clone #[.iface t (.map (some r))]=(getObj r >>= fun o=>match o with
  | .map entries clock=>(newObj (.map entries clock) >>= fun n=>pure (.iface t (.map (some n))))
  | _=>stuck "maps.clone: a map expected"):=rfl
 rw [e];simp only [Sem.run_bind,hg,Result.andThen_ok];rfl
theorem pY {P:Program} (w:World) (t xT k e:TypeId) (v:Value) (h:P.underlying t=some (.map k e)):(Instr.typeAssert (.iface t v) xT t false).run P w = .ok v w:=by
 simp [Instr.typeAssert,run_underlying h,go_sem,Result.andThen]
set_option maxHeartbeats 1000000 in
theorem Kn (b:Nat) (es:Array MapEntry) (clock:Nat) (w:World) (hb:w.heap[b]? = some (.map es clock)) :
 Calls Tryz.prog 433 #[.map (some b)] w fun e w'=>e = .returned (.map (some w.heap.size))∧w'=w.alloc (.map es clock):=by
 have hq:=fun w=>pX (P:=Tryz.prog) w 413 _ _ (some b) Tryz.underlying413
 go_enter Tryz.func433,Tryz.ntmps433
 go_wp2
 rw [run_callFunc_extern Tryz.func220 (by kernel_rfl) (by kernel_rfl) (by kernel_rfl) (e:=Extern.MapsClone.clone) (by kernel_rfl),BD w 413 hb];simp only [Result.andThen];rw [Oper.upon_value]
 go_wp2
 rw [pY _ 413 20 _ _ _ Tryz.underlying413];simp only [Result.andThen];rw [Oper.upon_value]
 go_wp2
 go_ret
 exact ⟨rfl,rfl⟩
theorem QD (es:List (DV×DV)):C Tryz.prog 433 [.map 0] [.map es] (fun r o=>r = .map 1∧o=[.map es,.map es]):=by
 intro κ φ w vs h1 h2 h3 h4;obtain ⟨v,rfl,hv⟩:=arg1 h3 h4;cases hv with
 | map hφ=>
 rename_i b;have ho:=h1 0;have et:aR [ay.map es] 0=some (.map es):=rfl;rw [et] at ho;obtain ⟨b',eF,clock,g1,g2,g3,g4,g5⟩:=ho
 have:b'=b:=by rw [g1] at hφ;injection hφ
 subst this;refine (Kn b' eF clock w g3).mono ?_
 rintro e w' ⟨rfl,rfl⟩
 have F:=kD h1 h2
 obtain ⟨q1,q2,q3⟩:=F.alloc (i:=1) (p:=.map es) (o:=.map eF clock) (w':=w.alloc (.map eF clock)) rfl (by simp [aR])
  (fun M=>⟨_,eF,clock,aP _ _ _,bW _ _ _,aS _ _,g4,fun j x e hx he=>by
    obtain ⟨k1,k2,k3⟩:=g5 j x e hx he;exact ⟨k1.mono M.dS,k2.mono M.dS,k3⟩⟩)
 have Ke:bA (aR [ay.map es]) 1 (some (.map es))=aR [.map es,.map es]:=by
  funext i
  match i with
  | 0=>simp [bA,aR]
  | 1=>simp [bA,aR]
  | i+2=>simp [bA,aR]
 simp only [Ke] at q1 q2;exact ⟨_,_,_,_,_,rfl,⟨rfl,rfl⟩,.map (aP _ _ _),q1.objs,q1.bnd,by simp,q3,q2.kp⟩
def Ko:kZ:=fun a o=>match a,o with
 | [.map 0],[.map es]=>some (.map 1,[.map es,.map es],[])
 | _,_=>none
theorem QE:bY Tryz.prog 433 Ko:=by
 intro a o r o' c hg _;unfold Ko at hg;split at hg
 ·rename_i es;simp only [Option.some.injEq,Prod.mk.injEq] at hg;obtain ⟨rfl,rfl,rfl⟩:=hg;exact QD es
 ·cases hg
set_option maxHeartbeats 1000000 in
theorem H9 (b:Nat) (es:Array MapEntry) (clock:Nat) (w:World) (hb:w.heap[b]? = some (.map es clock)) :
 Calls Tryz.prog 221 #[.map (some b)] w fun e w'=>e = .returned (.map (some w.heap.size))∧w'=w.alloc (.map es clock):=by
 have hq:=fun w=>pX (P:=Tryz.prog) w 144 _ _ (some b) Tryz.underlying144
 go_enter Tryz.func221,Tryz.ntmps221
 go_wp2
 rw [run_callFunc_extern Tryz.func220 (by kernel_rfl) (by kernel_rfl) (by kernel_rfl) (e:=Extern.MapsClone.clone) (by kernel_rfl),BD w 144 hb];simp only [Result.andThen];rw [Oper.upon_value]
 go_wp2
 rw [pY _ 144 20 _ _ _ Tryz.underlying144];simp only [Result.andThen];rw [Oper.upon_value]
 go_wp2
 go_ret
 exact ⟨rfl,rfl⟩
theorem N9 (es:List (DV×DV)):C Tryz.prog 221 [.map 0] [.map es] (fun r o=>r = .map 1∧o=[.map es,.map es]):=by
 intro κ φ w vs h1 h2 h3 h4;obtain ⟨v,rfl,hv⟩:=arg1 h3 h4;cases hv with
 | map hφ=>
 rename_i b;have ho:=h1 0;have et:aR [ay.map es] 0=some (.map es):=rfl;rw [et] at ho;obtain ⟨b',eF,clock,g1,g2,g3,g4,g5⟩:=ho
 have:b'=b:=by rw [g1] at hφ;injection hφ
 subst this;refine (H9 b' eF clock w g3).mono ?_
 rintro e w' ⟨rfl,rfl⟩
 have F:=kD h1 h2
 obtain ⟨q1,q2,q3⟩:=F.alloc (i:=1) (p:=.map es) (o:=.map eF clock) (w':=w.alloc (.map eF clock)) rfl (by simp [aR])
  (fun M=>⟨_,eF,clock,aP _ _ _,bW _ _ _,aS _ _,g4,fun j x e hx he=>by
    obtain ⟨k1,k2,k3⟩:=g5 j x e hx he;exact ⟨k1.mono M.dS,k2.mono M.dS,k3⟩⟩)
 have Ke:bA (aR [ay.map es]) 1 (some (.map es))=aR [.map es,.map es]:=by
  funext i
  match i with
  | 0=>simp [bA,aR]
  | 1=>simp [bA,aR]
  | i+2=>simp [bA,aR]
 simp only [Ke] at q1 q2;exact ⟨_,_,_,_,_,rfl,⟨rfl,rfl⟩,.map (aP _ _ _),q1.objs,q1.bnd,by simp,q3,q2.kp⟩
theorem Oa:bY Tryz.prog 221 Ko:=by
 intro a o r o' c hg _;unfold Ko at hg;split at hg
 ·rename_i es;simp only [Option.some.injEq,Prod.mk.injEq] at hg;obtain ⟨rfl,rfl,rfl⟩:=hg;exact N9 es
 ·cases hg
end Go.Proofs.YtjoefbioobdinaaGreatDoor
