/-
  Texts that the claim leans on: ConRead, ConLine, ConRef, K2, ConTx, K3, K4, K5, K6, AmNb.
-/
import Derived.Test.YtjoefbioobdinaaGreatDoorProg
import Derived.Test.YtjoefbioobdinaaGreatDoorrh
import Derived.Lib.Bytealg
import Derived.Lib.SlTrimSet
import Derived.Lib.ParseIntBTie
import Derived.Lib.SmallJoins
import Derived.Lib.Hide
import Derived.WalkKit
namespace Go.aQ
open Go.Lib
def code:Er→Int
 | .ok=>0
 | .text=>6
 | .range=>5
def kS (e w:Int):Int:=if e=6 then e else if w=0 then e else w
theorem jD (e w:Er):code (fail e w)=kS (code e) (code w):=by cases e<;>cases w<;>rfl
theorem xE {e:Er}:code e=0↔e = .ok:=by cases e<;>simp [code]
def gN (w:W):Nm:=match intOf w with
 | some n=>.is n
 | none=>if trimmed w=[]∨(trimmed w).head? = some 48∨¬(trimmed w).all fK=true then .none else .range
def uK (w:W):Int:=match gN w with
 | .is n=>n
 | _=>0
def Mv (w:W):Int:=match gN w with
 | .is _=>0
 | .none=>6
 | .range=>5
theorem Xt:gN [48] = .is 0:=by
 have h:intOf [48]=some 0:=by decide +kernel
 unfold gN;rw [h]
def nT (m:Bool) (r:W):W:=if m then (cut r).1 else [48]
def dh (m:Bool) (r:W):W:=if m then (cut r).2.1 else r
def cK (m:Bool) (r:W):Bool:=if m then (cut r).2.2 else false
def uL (m:Bool) (e:Int):Int:=if m then e else kS e 6
def kN (m:Bool) (r:W):Int:=uK (nT m r)
def lX (m:Bool) (r:W) (e:Int):Int:=kS (uL m e) (Mv (nT m r))
def qU (m:Bool) (r:W):List W:=if m then split r else []
theorem Bf (m:Bool) (r:W) (e:Er):take ⟨e,qU m r⟩=(nT m r,⟨if m then e else fail e .text,qU (cK m r) (dh m r)⟩):=by
 cases m with
 | false=>rfl
 | true=>
   simp only [qU,nT,cK,dh,if_true];rw [jC r];rfl
theorem sK (m:Bool) (r:W) (e:Er):∃e',count gN ⟨e,qU m r⟩=(kN m r,⟨e',qU (cK m r) (dh m r)⟩)∧code e'=lX m r (code e):=by
 unfold count;rw [Bf]
 have he:code (if m=true then e else fail e .text)=uL m (code e):=by
  cases m with
  | true=>rfl
  | false=>exact jD e .text
 generalize (if m=true then e else fail e .text)=e1 at he;unfold kN lX uK Mv;cases gN (nT m r) with
 | none=>exact ⟨_,rfl,by rw [jD,he];rfl⟩
 | range=>exact ⟨_,rfl,by rw [jD,he];rfl⟩
 | is n=>exact ⟨_,rfl,by rw [he];unfold kS;split<;>simp⟩
theorem Mw (m:Bool) (r:W):qU m r=[]↔m=false:=by
 cases m with
 | false=>simp [qU]
 | true=>simp only [qU,if_true];rw [jC r];simp
def stop (a:Act) (m:Bool) (e:Int):Act×Int:=if (if m then kS e 6 else e)=0 then (a,0) else ({},if m then kS e 6 else e)
theorem J3 (a:Act) (m:Bool) (r:W) (e:Er):stop a m (code e)=((ends a ⟨e,qU m r⟩).1,code (ends a ⟨e,qU m r⟩).2):=by
 unfold stop ends;simp only [Mw];cases m with
 | false=>
   simp only [if_true,Bool.false_eq_true,if_false,xE];cases e<;>rfl
 | true=>
   simp only [if_true,Bool.true_eq_false,if_false];rw [show kS (code e) 6=code (fail e .text) from (jD e .text).symm]
   simp only [xE];generalize fail e .text=e';cases e'<;>rfl
def Bg (k:Nat) (m:Bool) (r:W):Act×Int:=
 let a:Act:={ kind:=k }
 let m1:=cK m r
 let r1:=dh m r
 let e1:=lX m r 0
 let m2:=cK m1 r1
 let r2:=dh m1 r1
 let e2:=lX m1 r1 e1
 match k with
 | 2 | 10=>stop { a with node:=kN m r } m1 e1
 | 3 | 4 | 5 | 12 | 14=>stop { a with n:=kN m r } m1 e1
 | 6=>stop { a with n:=kN m r,at_:=kN m1 r1,x:=kN m2 r2 % 256 } (cK m2 r2) (if kN m2 r2 < 0∨kN m2 r2 > 255 then kS (lX m2 r2 e2) 5 else lX m2 r2 e2)
 | 7=>match jd (nT m2 r2) with
   | some x=>stop { a with node:=kN m r,n:=kN m1 r1,x:=x } (cK m2 r2) (uL m2 e2)
   | none=>stop { a with node:=kN m r,n:=kN m1 r1 } (cK m2 r2) (kS (uL m2 e2) 6)
 | 8=>stop { a with node:=kN m r,n:=kN m1 r1 } m2 e2
 | 9=>if m1=true then stop { a with node:=kN m r,keep:=dD (nT m1 r1) } m2 (if gM (nT m1 r1)=true then e1 else kS e1 6) else stop { a with node:=kN m r } m1 e1
 | _=>stop a m 0
theorem mH {a:Act} {m:Bool} {r:W} {e:Er} {c:Int} (h:code e=c) {p:Act×Er} (hp:p=ends a ⟨e,qU m r⟩):stop a m c=(p.1,code p.2):=by
 rw [←h,J3 a m r e,hp]
theorem Mx (k:Nat) (m:Bool) (r:W) (hk:2≤k∧k≤14):Bg k m r=((prog gN k (qU m r)).1,code (prog gN k (qU m r)).2):=by
 obtain ⟨e1,h1,c1⟩:=sK m r .ok;obtain ⟨e2,h2,c2⟩:=sK (cK m r) (dh m r) e1;obtain ⟨e3,h3,c3⟩:=sK (cK (cK m r) (dh m r)) (dh (cK m r) (dh m r)) e2;have t2:=Bf (cK (cK m r) (dh m r)) (dh (cK m r) (dh m r)) e2;have c1' : code e1=lX m r 0:=c1;rw [c1'] at c2;rw [c2] at c3;obtain ⟨l1,l2⟩:=hk
 have:k=2∨k=3∨k=4∨k=5∨k=6∨k=7∨k=8∨k=9∨k=10∨k=11∨k=12∨k=13∨k=14:=by omega
 rcases this with rfl | rfl | rfl | rfl | rfl | rfl | rfl | rfl | rfl | rfl | rfl | rfl | rfl
 case inr.inr.inr.inr.inl=>
  refine mH (r:=dh (cK (cK m r) (dh m r)) (dh (cK m r) (dh m r))) (e:=if kN (cK (cK m r) (dh m r)) (dh (cK m r) (dh m r)) < 0∨kN (cK (cK m r) (dh m r)) (dh (cK m r) (dh m r)) > 255 then fail e3 .range else e3) ?_ ?_
  ·split
   ·rw [jD,c3];rfl
   ·exact c3
  ·simp only [prog,h1,h2,h3]
   split<;>rfl
 case inr.inr.inr.inr.inr.inl=>
  have ht:code (if cK (cK m r) (dh m r)=true then e2 else fail e2 .text)=uL (cK (cK m r) (dh m r)) (lX (cK m r) (dh m r) (lX m r 0)):=by
   rw [←c2];unfold uL;split
   ·rfl
   ·exact jD _ _
  cases hw:jd (nT (cK (cK m r) (dh m r)) (dh (cK m r) (dh m r))) with
  | some x=>
    have e0:Bg 7 m r=stop { kind:=(7:Nat),node:=kN m r,n:=kN (cK m r) (dh m r),x:=x } (cK (cK (cK m r) (dh m r)) (dh (cK m r) (dh m r))) (uL (cK (cK m r) (dh m r)) (lX (cK m r) (dh m r) (lX m r 0))):=by
     simp only [Bg,hw]
    rw [e0];refine mH (r:=dh (cK (cK m r) (dh m r)) (dh (cK m r) (dh m r))) ht ?_;simp only [prog,h1,h2,t2,hw]
  | none=>
    have e0:Bg 7 m r=stop { kind:=(7:Nat),node:=kN m r,n:=kN (cK m r) (dh m r) } (cK (cK (cK m r) (dh m r)) (dh (cK m r) (dh m r))) (kS (uL (cK (cK m r) (dh m r)) (lX (cK m r) (dh m r) (lX m r 0))) 6):=by
     simp only [Bg,hw]
    rw [e0];refine mH (r:=dh (cK (cK m r) (dh m r)) (dh (cK m r) (dh m r))) (e:=fail (if cK (cK m r) (dh m r)=true then e2 else fail e2 .text) .text) (by rw [jD,ht];rfl) ?_;simp only [prog,h1,h2,t2,hw]
 case inr.inr.inr.inr.inr.inr.inl=>
  refine mH (r:=dh (cK m r) (dh m r)) c2 ?_;simp only [prog,h1,h2]
 case inr.inr.inr.inr.inr.inr.inr.inl=>
  cases hm:cK m r with
  | false=>
    have e0:Bg 9 m r=stop { kind:=(9:Nat),node:=kN m r } false (lX m r 0):=by simp [Bg,hm]
    rw [e0];refine mH (r:=dh m r) c1' ?_;simp only [prog,h1,hm];rfl
  | true=>
    have key:∀q:W,qU true q=nT true q::qU (cK true q) (dh true q):=fun q=>by
     show split q=(cut q).1::(if (cut q).2.2=true then split (cut q).2.1 else [])
     exact jC q
    have hs:=key (dh m r);have e0:Bg 9 m r=stop { kind:=(9:Nat),node:=kN m r,keep:=dD (nT true (dh m r)) } (cK true (dh m r)) (if gM (nT true (dh m r))=true then lX m r 0 else kS (lX m r 0) 6):=by simp [Bg,hm]
    rw [e0];refine mH (r:=dh true (dh m r)) (e:=if gM (nT true (dh m r))=true then e1 else fail e1 .text) ?_ ?_
    ·split
     ·exact c1'
     ·rw [jD,c1'];rfl
    ·simp only [prog,h1,hm,hs]
 all_goals first
  | (refine mH (r:=dh m r) c1' ?_;simp only [prog,h1];done)
  | (refine mH (r:=r) (e:=.ok) rfl ?_;rfl)
def kw:Nat→W
 | 1=>[114,117,110]
 | 2=>[116,105,99,107]
 | 3=>[100,101,108,105,118,101,114]
 | 4=>[100,114,111,112]
 | 5=>[116,119,105,99,101]
 | 6=>[115,112,111,105,108]
 | 7=>[97,114,109]
 | 8=>[112,111,119,101,114]
 | 9=>[99,114,97,115,104]
 | 10=>[99,104,101,99,107,112,111,105,110,116]
 | 11=>[98,97,99,107,117,112]
 | 12=>[115,116,101,112]
 | 13=>[103,97,116,104,101,114]
 | 14=>[114,101,115,116,111,114,101]
 | _=>[]
def kindOf (w:W):Nat:=(((List.range 14).map (· + 1)).find? fun k=>kw k==w).getD 0
theorem nQ (w:W):kindOf w≤14:=by
 unfold kindOf;cases h:((List.range 14).map (· + 1)).find? fun k=>kw k==w with
 | none=>simp
 | some k=>
   have:=List.mem_of_find?_eq_some h
   simp only [List.mem_map,List.mem_range] at this;simp only [Option.getD_some];omega
def dL (s:W):Act×Int:=
 match kindOf (cut s).1 with
 | 0=>({},6)
 | 1=>if (cut s).2.2=false∨(10:UInt8)∈(cut s).2.1 then ({},6) else ({ kind:=1,text:=(cut s).2.1 },0)
 | k=>Bg k (cut s).2.2 (cut s).2.1
def cO (s:W):Act×Int:=
 match kindOf ((split s).headD []) with
 | 0=>({},6)
 | 1=>if (split s).length < 2∨(10:UInt8)∈s.drop 4 then ({},6) else ({ kind:=1,text:=s.drop 4 },0)
 | k=>((doc gN k (split s).tail).1,code (doc gN k (split s).tail).2)
theorem qI {w:W} {k:Nat} (h:kindOf w=k) (hk:k≠0):w=kw k:=by
 unfold kindOf at h;cases hf:((List.range 14).map (· + 1)).find? fun k=>kw k==w with
 | none=>rw [hf] at h;exact absurd h.symm hk
 | some j=>
   rw [hf] at h;simp only [Option.getD_some] at h;subst h
   have:=List.find?_some hf
   exact (by simpa using this:kw j=w).symm
theorem EZ (s:W):dL s=cO s:=by
 have hs:=jC s;unfold dL cO;rw [hs];simp only [List.headD_cons,List.tail_cons];have hle:=nQ (cut s).1;have e:qU (cut s).2.2 (cut s).2.1=(if (cut s).2.2=true then split (cut s).2.1 else []):=rfl;have hw:∀k,kindOf (cut s).1=k→k≠0→(cut s).1=kw k:=fun k h h0=>qI h h0;generalize hk:kindOf (cut s).1=k at hle hw
 match k,hle,hk with
 | 0,_,_=>rfl
 | 1,_,hk=>
   have h1:=hw 1 rfl (by decide);cases hm:(cut s).2.2 with
   | false=>simp
   | true=>
     have ht:=yV s hm
     have hd:s.drop 4=(cut s).2.1:=by
      have h2:=congrArg (List.drop 4) ht;rw [h1] at h2;exact h2
     have hl:¬((cut s).1::split (cut s).2.1).length < 2:=by rw [jC];simp
     rw [hd];simp only [if_true,hl,false_or,Bool.true_eq_false]
 | k+2,hle,hk=>
   show Bg (k+2) _ _=_
   rw [Mx (k+2) _ _ ⟨by omega,by omega⟩,Mt gN Xt (k+2) _ ⟨by omega,by omega⟩,e];rfl
def yX (l:List Bool):W:=l.map fun b=>if b then 43 else 45
def same (a b:Act):Prop:=a.kind=b.kind∧a.node=b.node∧a.n=b.n∧a.at_=b.at_∧a.x=b.x∧a.text=b.text∧yX a.keep=yX b.keep
instance (a b:Act):Decidable (same a b):=by unfold same;infer_instance
theorem Bh:∀{a b:List Bool},yX a=yX b→a=b
 | [],[],_=>rfl
 | [],_::_,h=>by simp [yX] at h
 | _::_,[],h=>by simp [yX] at h
 | x::a,y::b,h=>by
   simp only [yX,List.map_cons,List.cons.injEq] at h
   have:=Bh (a:=a) (b:=b) h.2
   rw [this];congr 1;cases x<;>cases y<;>simp_all
theorem same_eq {a b:Act}:same a b↔a=b:=by
 constructor
 ·rintro ⟨h1,h2,h3,h4,h5,h6,h7⟩
  cases a;cases b;simp only at h1 h2 h3 h4 h5 h6 h7;rw [h1,h2,h3,h4,h5,h6,Bh h7]
 ·rintro rfl
  exact ⟨rfl,rfl,rfl,rfl,rfl,rfl,rfl⟩
theorem xG (a:Act):stop a false 0=(a,0):=rfl
def mag (s:W):W:=if s.head? = some 45 then s.tail else s
theorem E5 (s:W):trimmed s=mag s:=GK s
def yY (s:W):Bool:=
 decide (mag s≠[])&&decide ((mag s).length≤19) && !(decide ((mag s).head? = some 48)&&decide (1 < s.length))&&(mag s).all fK &&
  (if s.head? = some 45 then decide (val 0 (mag s)≤9223372036854775808) else decide (val 0 (mag s) < 9223372036854775808))
def J4 (s:W):Int:=if s.head? = some 45 then -(val 0 (mag s):Int) else (val 0 (mag s):Int)
theorem MB {d:W} (h:d≠[]) (ha:d.all fK=true) (h0:d.head?≠some 48):10 ^ (d.length-1)≤val 0 d:=by
 cases d with
 | nil=>exact absurd rfl h
 | cons c r=>
   simp only [List.head?_cons,ne_eq,Option.some.injEq] at h0;simp only [List.all_cons,Bool.and_eq_true,kE] at ha;have h5:c.toNat≠48:=fun e=>h0 (UInt8.toNat_inj.1 (by simpa using e));have h2:=PS r (10*0+(c.toNat-48));have e:val 0 (c::r)=val (10*0+(c.toNat-48)) r:=rfl;rw [e,List.length_cons,Nat.add_sub_cancel];generalize 10 ^ r.length=q at h2 ⊢;refine Nat.le_trans ?_ h2;exact Nat.le_mul_of_pos_left q (by omega)
theorem E8 {d:W} (h:d≠[]) (ha:d.all fK=true) (h0:d.head?≠some 48) (hv:val 0 d≤9223372036854775808):d.length≤19:=by
 have h1:=MB h ha h0;rcases Nat.lt_or_ge 19 d.length with h2 | h2
 ·have h3:10 ^ 19≤10 ^ (d.length-1):=Nat.pow_le_pow_right (by decide) (by omega);have h4:(10:Nat) ^ 19=10000000000000000000:=by decide
  omega
 ·exact h2
theorem Bj (s:W):intOf s=if yY s=true then some (J4 s) else none:=by
 unfold intOf yY J4;by_cases h45:s.head? = some 45
 ·have hm:mag s=s.tail:=by unfold mag;rw [if_pos h45]
  rw [hm];simp only [h45,if_true]
  have hl:1 < s.length↔s.tail≠[]:=by
   cases s with
   | nil=>simp at h45
   | cons c r=>cases r<;>simp
  by_cases hc:s.tail≠[]∧s.tail.all fK=true∧s.tail.head?≠some 48∧val 0 s.tail≤9223372036854775808
  ·obtain ⟨a1,a2,a3,a4⟩:=hc;have a5:=E8 a1 a2 a3 a4;rw [if_pos ⟨a1,a2,a3,a4⟩,if_pos];simp only [Bool.and_eq_true,decide_eq_true_eq,Bool.not_eq_true',Bool.and_eq_false_iff,decide_eq_false_iff_not];exact ⟨⟨⟨⟨a1,a5⟩,.inl a3⟩,a2⟩,a4⟩
  ·rw [if_neg hc,if_neg];intro h;simp only [Bool.and_eq_true,decide_eq_true_eq,Bool.not_eq_true',Bool.and_eq_false_iff,decide_eq_false_iff_not] at h;obtain ⟨⟨⟨⟨b1,b2⟩,b3⟩,b4⟩,b5⟩:=h;refine hc ⟨b1,b4,?_,b5⟩;rcases b3 with b3 | b3
   ·exact b3
   ·exact absurd (hl.2 b1) b3
 ·have hm:mag s=s:=by unfold mag;rw [if_neg h45]
  rw [hm];simp only [h45,if_false];by_cases hc:s≠[]∧s.all fK=true∧(s.head? = some 48→s.length=1)∧val 0 s≤9223372036854775807
  ·obtain ⟨a1,a2,a3,a4⟩:=hc
   have a5:s.length≤19:=by
    by_cases h48:s.head? = some 48
    ·rw [a3 h48];omega
    ·exact E8 a1 a2 h48 (by omega)
   have a6:val 0 s < 9223372036854775808:=by omega
   have a7:¬s.head? = some 48∨¬1 < s.length:=by
    by_cases h48:s.head? = some 48
    ·exact .inr (by rw [a3 h48];omega)
    ·exact .inl h48
   rw [if_pos ⟨a1,a2,a3,a4⟩,if_pos];simp only [Bool.and_eq_true,decide_eq_true_eq,Bool.not_eq_true',Bool.and_eq_false_iff,decide_eq_false_iff_not];exact ⟨⟨⟨⟨a1,a5⟩,a7⟩,a2⟩,a6⟩
  ·rw [if_neg hc,if_neg];intro h;simp only [Bool.and_eq_true,decide_eq_true_eq,Bool.not_eq_true',Bool.and_eq_false_iff,decide_eq_false_iff_not] at h;obtain ⟨⟨⟨⟨b1,b2⟩,b3⟩,b4⟩,b5⟩:=h;refine hc ⟨b1,b4,fun h48=>?_,by omega⟩;rcases b3 with b3 | b3
   ·exact absurd h48 b3
   ·have:s.length≠0:=fun e=>b1 (List.length_eq_zero_iff.1 e)
    omega
def vR (s:W):VR:=
 if s=uJ then (0,0,[],0)
 else if 3≤s.length∧s.head? = some 120∧s[1]? = some 39∧s.getLast? = some 39∧s.length % 2=1 then Bc 3 6 3 (eH (inner s 2))
 else if 2≤s.length∧s.head? = some 39∧s.getLast? = some 39 then Bc 2 6 3 (iK (inner s 1))
 else if yY s=true then (1,J4 s,[],0) else (0,0,[],6)
theorem Xu {s:W} {n:Int} (h:intOf s=some n):vR s=(1,n,[],0):=by
 have ne:∀c r,s=c::r→c≠45→fK c=false→False:=fun c r e h1 h2=>by
  rw [e,I7 h1 h2] at h;cases h
 have hd:∀c,s.head? = some c→c≠45→fK c=false→False:=fun c e h1 h2=>by
  cases s with
  | nil=>cases e
  | cons x r=>simp at e;subst e;exact ne x r rfl h1 h2
 unfold vR;rw [if_neg (fun e:s=uJ=>ne 78 _ e (by decide) (by decide)),if_neg (fun e=>hd 120 e.2.1 (by decide) (by decide)),if_neg (fun e=>hd 39 e.2.1 (by decide) (by decide))];rw [Bj] at h;split at h
 ·rename_i hk;injection h with h;rw [if_pos hk,h]
 ·cases h
theorem Xv {s:W} (h:intOf s=none):¬((vR s).2.2.2=0∧(vR s).1=1):=by
 unfold vR;split
 ·simp
 ·split
  ·exact Dj 3 6 3 (by decide) (by decide) (by decide) _
  ·split
   ·exact Dj 2 6 3 (by decide) (by decide) (by decide) _
   ·rw [Bj] at h;split at h
    ·cases h
    ·rename_i hk;rw [if_neg hk];simp
def iV (w:W):Int:=match gN w with
 | .is _=>2
 | .none=>0
 | .range=>1
end Go.aQ
namespace Go.Proofs.YtjoefbioobdinaaGreatDoor
open Go.RowKit Am
open Go.aQ hiding cut intOf take split
set_option maxRecDepth 100000
set_option linter.unusedVariables false
set_option linter.unusedSimpArgs false
abbrev sT:Nat:=9
abbrev bT:Nat:=5
abbrev iT:Nat:=3
noncomputable abbrev Zn:Code:=eG Tryz.f76
def Rn (s:W) (out:List DV) (i:Nat):iU:={ n:=43,m:=0,regs:=T.mk [(0,.d (.str s)),(4,.own 200 1),(5,.d (.int .i64 (i:Int)))],objs:=T.mk [(200,.arr bT 1 out)] }
def GL:W:=[48,49,50,51,52,53,54,55,56,57,97,98,99,100,101,102]
def wX (c:Int):Int:=Lib.indexByte GL c.toNat.toUInt8
def ZY:DV→DV→Option (DV×List Bool)
 | .str s,.int .u8 c=>some (.int .i64 (wX c),[decide (s=GL)])
 | _,_=>none
theorem SF:bY Tryz.prog 136 (e2 ZY):=by
 refine pJ fun x x2 y c hg hc=>?_;unfold ZY at hg;split at hg
 ·rename_i s b;simp only [Option.some.injEq,Prod.mk.injEq] at hg;obtain ⟨rfl,rfl⟩:=hg;have h1:=of_decide_eq_true (hc (decide (s=GL)) (by simp));subst h1;refine om (args:=[.str GL,.int .u8 b]) (us:=[.string ⟨GL.toArray⟩,.int .u8 b]) (v:=.int .i64 (wX b)) rfl rfl fun w=>?_;refine (Tryz.strings_IndexByte ⟨GL.toArray⟩ b w).mono ?_
  rintro e w' ⟨rfl,rfl⟩
  exact ⟨rfl,Below.refl _ _⟩
 ·cases hg
theorem I8 (c:UInt8):wX (c.toNat:Nat)=match lW c with | some k=>(k:Int) | none=>-1:=by
 have:∀n:Fin 256,Lib.indexByte GL (UInt8.ofNat n.val)=match lW (UInt8.ofNat n.val) with | some k=>(k:Int) | none=>-1:=by decide +kernel
 have h:=this ⟨c.toNat,UInt8.toNat_lt c⟩;simp only [UInt8.ofNat_toNat] at h;unfold wX;rw [Int.toNat_natCast,show c.toNat.toUInt8=c from UInt8.ofNat_toNat ..]
 exact h
theorem xH {c:UInt8} {k:Nat} (h:lW c=some k):k < 16:=by
 unfold lW at h;split at h
 ·injection h with h;omega
 ·split at h
  ·injection h with h;omega
  ·cases h
noncomputable def SG:List (Nat×kZ):=[(136,e2 ZY)]
theorem MC:eZ Tryz.prog SG:=.cons SF .nil
def E9 (o:Option W):RV:=.aZ [.d (.str (o.getD [])),.d (.bool o.isSome)]
theorem Bl:∀(n:Nat) (s:W),s.length=2*n+1→eH s=none
 | 0,[a],_=>rfl
 | n+1,a::b::r,h=>by
   have:=Bl n r (by simp at h;omega)
   unfold eH;rw [this]
   split<;>rfl
theorem Xw {x y:Nat} (hx:x < 16) (hy:y < 16):IntKind.u8.wrap (bits Go.BinOp.or .i64 (IntKind.i64.wrap ((x:Int)*16)) (y:Int))=((UInt8.ofNat (16*x+y)).toNat:Int):=by
 have:∀a b:Fin 16,IntKind.u8.wrap (bits Go.BinOp.or .i64 (IntKind.i64.wrap ((a.val:Int)*16)) (b.val:Int))=((UInt8.ofNat (16*a.val+b.val)).toNat:Int):=by decide +kernel
 exact this ⟨x,hx⟩ ⟨y,hy⟩
theorem uw {s:List UInt8} {i:Nat} {c:UInt8} (hi:i≤1000000) (h:s[i+1]? = some c):iI (.d (.int .u8 (((s.getD (IntKind.i64.wrap ((Nat.cast (R:=Int) i)+1)).toNat 0).toNat:Nat):Int))) (.d (.int .u8 ((c.toNat:Nat):Int))):=.of_eq (by
 rw [bC _ (by omega),show ((i:Int)+1).toNat=i+1 by omega,List.getD,h];rfl)
theorem Dl {i n:Nat} (hi:i≤1000000) (h:i+1 < n):decide (0≤IntKind.i64.wrap ((Nat.cast (R:=Int) i)+1)∧IntKind.i64.wrap ((Nat.cast (R:=Int) i)+1) < (Nat.cast (R:=Int) n))=true:=by
 rw [bC _ (by omega)];exact decide_eq_true (by omega)
theorem drop2 {s:W} {i:Nat} {a b:UInt8} (h1:s[i]? = some a) (h2:s[i+1]? = some b):s.drop i=a::b::s.drop (i+2):=by
 obtain ⟨k1,e1⟩:=List.getElem?_eq_some_iff.1 h1;obtain ⟨k2,e2⟩:=List.getElem?_eq_some_iff.1 h2;rw [List.drop_eq_getElem_cons k1,e1,List.drop_eq_getElem_cons k2,e2]
theorem yZ {a b:UInt8} {x y:Nat} (r:W) (h1:lW a=some x) (h2:lW b=some y):eH (a::b::r)=(eH r).map (UInt8.ofNat (16*x+y) :: ·):=by
 show (match lW a,lW b with
  | some x,some y=>(eH r).map (UInt8.ofNat (16*x+y) :: ·)
  | _,_=>none)=_
 rw [h1,h2]
theorem pQ (a:W):(fq a).map DV.byte=a:=by
 unfold fq;rw [List.map_map]
 have:(DV.byte∘fun b:UInt8=>DV.int .u8 b.toNat)=id:=by
  funext b
  show UInt8.ofNat ((b.toNat:Int).toNat)=b
  rw [Int.toNat_natCast];exact UInt8.ofNat_toNat ..
 rw [this,List.map_id]
theorem oC (a:W):(fq a).all DV.isByte=true:=by
 rw [List.all_eq_true];intro x hx;obtain ⟨b,_,rfl⟩:=List.mem_map.1 hx;rfl
abbrev SH (s:W):bQ→Prop:=rR (Tryz.f76.results.toList) 0 (fun r o=>r=E9 (eH s)∧o=[])
set_option maxHeartbeats 2000000 in
theorem PV (s:W) (hs:s.length≤1000000) (hm:s.length % 2=0):WK Tryz.prog 0 (av Zn 0) (Rn s [] 0).den (SH s):=by
 have ok:=aH MC;refine WK.rec' (fun p:W×Nat=>Rn s (fq p.1) p.2) (fun p=>p.2≤s.length∧p.2 % 2=0∧p.1.length≤p.2∧eH s=(eH (s.drop p.2)).map (p.1 ++ ·)) (fun p=>s.length-p.2) ?_ ([],0) ⟨by omega,rfl,Nat.le_refl _,by simp⟩
 rintro ⟨pre,i⟩ ⟨hi,h2,hl,hb⟩ ih
 simp only at hi h2 hl hb;by_cases he:i < s.length
 ·have h1:i+1 < s.length:=by omega
  obtain ⟨a,ha⟩:∃a,s[i]? = some a:=⟨_,List.getElem?_eq_getElem he⟩;obtain ⟨b,hb1⟩:∃b,s[i+1]? = some b:=⟨_,List.getElem?_eq_getElem h1⟩;rw [drop2 ha hb1] at hb;obtain ⟨x,hx⟩:∃x,wX (a.toNat:Nat)=x:=⟨_,rfl⟩;obtain ⟨y,hy⟩:∃y,wX (b.toNat:Nat)=y:=⟨_,rfl⟩;have ex:=(I8 a).symm.trans hx;have ey:=(I8 b).symm.trans hy;have v1:=lg ha;have v2:=uw (i:=i) (by omega) hb1;have c1:=uq he;have c2:=Dl (by omega) h1;cases hxa:lW a with
  | none=>
    rw [hxa] at ex;have x0:x < 0:=by simp only at ex;omega
    have hq:eH s=none:=by rw [hb];unfold eH;rw [hxa];rfl
    exact WK.fin ok 1000 0 [(15,aj true),(20,bK (a.toNat:Int)),(25,bK (b.toNat:Int)),(21,aA x),(26,aA y),(28,aj true),(32,aj true)] [decide (0≤(i:Int)∧(i:Int) < ((List.length s:Nat):Int)),true,decide (0≤IntKind.i64.wrap ((i:Int)+1)∧IntKind.i64.wrap ((i:Int)+1) < ((List.length s:Nat):Int)),true] [(aj (decide ((i:Int) < ((List.length s:Nat):Int))),aj true),(bK ((List.getD s (i:Int).toNat (0:UInt8)).toNat:Int),bK (a.toNat:Int)),(aA (Go.Proofs.YtjoefbioobdinaaGreatDoor.wX (a.toNat:Int)),aA x),(bK ((List.getD s (IntKind.i64.wrap ((i:Int)+1)).toNat (0:UInt8)).toNat:Int),bK (b.toNat:Int)),(aA (Go.Proofs.YtjoefbioobdinaaGreatDoor.wX (b.toNat:Int)),aA y),(aj (decide (x < 0)),aj true),(aj true,aj true)] rfl (by kernel_rfl:au (bq SG) true _ 1000 0 _ _ (Rn s (fq pre) i)=some (RV.aZ [dH [],aj false],[],_,_)) (by refine ⟨?_,?_,?_,?_,trivial⟩<;>(first | rfl | exact c1 | exact c2)) (by refine ⟨?_,?_,?_,?_,?_,?_,?_,trivial⟩<;>(first | exact ah (decide_eq_true (by omega)) | exact v1 | exact v2 | exact .of_eq (by rw [hx]) | exact .of_eq (by rw [hy]) | exact ah rfl)) ⟨by rw [hq];rfl,rfl⟩
  | some k=>
    rw [hxa] at ex;have hk:=xH hxa;simp only at ex;subst ex;cases hyb:lW b with
    | none=>
      rw [hyb] at ey;have y0:y < 0:=by simp only at ey;omega
      have hq:eH s=none:=by rw [hb];unfold eH;rw [hxa,hyb];rfl
      exact WK.fin ok 1000 0 [(15,aj true),(20,bK (a.toNat:Int)),(25,bK (b.toNat:Int)),(21,aA ((k:Nat):Int)),(26,aA y),(28,aj false),(31,aj true),(32,aj true)] [decide (0≤(i:Int)∧(i:Int) < ((List.length s:Nat):Int)),true,decide (0≤IntKind.i64.wrap ((i:Int)+1)∧IntKind.i64.wrap ((i:Int)+1) < ((List.length s:Nat):Int)),true] [(aj (decide ((i:Int) < ((List.length s:Nat):Int))),aj true),(bK ((List.getD s (i:Int).toNat (0:UInt8)).toNat:Int),bK (a.toNat:Int)),(aA (Go.Proofs.YtjoefbioobdinaaGreatDoor.wX (a.toNat:Int)),aA ((k:Nat):Int)),(bK ((List.getD s (IntKind.i64.wrap ((i:Int)+1)).toNat (0:UInt8)).toNat:Int),bK (b.toNat:Int)),(aA (Go.Proofs.YtjoefbioobdinaaGreatDoor.wX (b.toNat:Int)),aA y),(aj (decide (((k:Nat):Int) < 0)),aj false),(aj (decide (y < 0)),aj true),(aj true,aj true)] rfl (by kernel_rfl:au (bq SG) true _ 1000 0 _ _ (Rn s (fq pre) i)=some (RV.aZ [dH [],aj false],[],_,_)) (by refine ⟨?_,?_,?_,?_,trivial⟩<;>(first | rfl | exact c1 | exact c2)) (by refine ⟨?_,?_,?_,?_,?_,?_,?_,?_,trivial⟩<;>(first | exact ah (decide_eq_false (by omega)) | exact ah (decide_eq_true (by omega)) | exact v1 | exact v2 | exact .of_eq (by rw [hx]) | exact .of_eq (by rw [hy]) | exact ah rfl)) ⟨by rw [hq];rfl,rfl⟩
    | some j=>
      rw [hyb] at ey;have hj:=xH hyb;simp only at ey;subst ey;have c3:decide (((fq pre).length+1)*1≤2 ^ 38)=true:=decide_eq_true (by unfold fq;rw [List.length_map];omega);have v3:=I6 (i:=i) (by omega)
      have hk2:=ih (pre++[UInt8.ofNat (16*k+j)],i+2) ⟨by omega,by omega,by rw [List.length_append];simp only [List.length_cons,List.length_nil];omega,by
       rw [hb,yZ _ hxa hyb,Option.map_map];congr 1;funext q;simp⟩ (by simp only;omega)
      have e5:fq (pre++[UInt8.ofNat (16*k+j)])=fq pre++[.int .u8 (IntKind.u8.wrap (bits Go.BinOp.or .i64 (IntKind.i64.wrap ((k:Int)*16)) (j:Int)))]:=by
       rw [Xw hk hj];unfold fq;rw [List.map_append];rfl
      simp only at hk2;rw [e5] at hk2;refine WK.cZ ok 1000 0 [(15,aj true),(20,bK (a.toNat:Int)),(25,bK (b.toNat:Int)),(21,aA ((k:Nat):Int)),(26,aA ((j:Nat):Int)),(28,aj false),(31,aj false),(32,aj false),(17,aA ((i+2:Nat):Int))] [] [0,4,5] [decide (0≤(i:Int)∧(i:Int) < ((List.length s:Nat):Int)),true,decide (0≤IntKind.i64.wrap ((i:Int)+1)∧IntKind.i64.wrap ((i:Int)+1) < ((List.length s:Nat):Int)),true,true,decide (((fq pre).length+[aU (IntKind.u8.wrap (bits Go.BinOp.or IntKind.i64 (IntKind.i64.wrap (((k:Nat):Int)*2 ^ Min.min (Int.toNat (4)) IntKind.i64.bits)) ((j:Nat):Int)))].length)*Go.Proofs.Tryz.prog.types[5].bytes≤2 ^ 38)] [(aj (decide ((i:Int) < ((List.length s:Nat):Int))),aj true),(bK ((List.getD s (i:Int).toNat (0:UInt8)).toNat:Int),bK (a.toNat:Int)),(aA (Go.Proofs.YtjoefbioobdinaaGreatDoor.wX (a.toNat:Int)),aA ((k:Nat):Int)),(bK ((List.getD s (IntKind.i64.wrap ((i:Int)+1)).toNat (0:UInt8)).toNat:Int),bK (b.toNat:Int)),(aA (Go.Proofs.YtjoefbioobdinaaGreatDoor.wX (b.toNat:Int)),aA ((j:Nat):Int)),(aj (decide (((k:Nat):Int) < 0)),aj false),(aj (decide (((j:Nat):Int) < 0)),aj false),(aj false,aj false),(aA (IntKind.i64.wrap ((i:Int)+2)),aA ((i+2:Nat):Int))] rfl (by kernel_rfl:aJ (bq SG) 1000 0 _ _ _ _ (Rn s (fq pre) i)=some (av Zn 0,Rn s (fq pre++[.int .u8 (IntKind.u8.wrap (bits Go.BinOp.or .i64 (IntKind.i64.wrap ((k:Int)*16)) (j:Int)))]) (i+2),_,_)) (by refine ⟨?_,?_,?_,?_,?_,?_,trivial⟩<;>(first | rfl | exact c1 | exact c2 | exact c3)) (by refine ⟨?_,?_,?_,?_,?_,?_,?_,?_,?_,trivial⟩<;>(first | exact ah (decide_eq_false (by omega)) | exact ah (decide_eq_true (by omega)) | exact v1 | exact v2 | exact v3 | exact .of_eq (by rw [hx]) | exact .of_eq (by rw [hy]) | exact ah rfl)) ?_
      exact hk2
 ·have hd:s.drop i=[]:=List.drop_eq_nil_of_le (by omega);have hq:eH s=some pre:=by rw [hb,hd];simp [eH]
  have c4:(fq pre).all DV.isByte=true:=oC pre;exact WK.fin ok 1000 0 [(15,aj false)] [(fq pre).all DV.isByte] [(aj (decide ((i:Int) < ((List.length s:Nat):Int))),aj false)] rfl (by kernel_rfl:au (bq SG) true _ 1000 0 _ _ (Rn s (fq pre) i)=some (RV.aZ [dH (List.map DV.byte (fq pre)),aj true],[],_,_)) ⟨(by first | rfl | exact c4),trivial⟩ ⟨(by first | exact ah (decide_eq_false (by omega)) | exact ah rfl),trivial⟩ ⟨by rw [hq];simp only [E9,pQ,Option.getD_some,Option.isSome_some],rfl⟩
theorem Z0 (s:W) (hs:s.length≤1000000):Go.Am.C Tryz.prog 76 [.d (.str s)] [] (fun r o=>r=E9 (eH s)∧o=[]):=by
 have ok:=aH MC;refine bn (fn:=Tryz.f76) (body:=Zn) true (by kernel_rfl) (by kernel_rfl) (by kernel_rfl) ?_;by_cases hm:s.length % 2=0
 ·have e:((s.length:Int).tmod 2 != 0)=false:=by
   have:(s.length:Int).tmod 2=((s.length % 2:Nat):Int):=rfl
   rw [this,hm];rfl
  have hk:=PV s hs hm;refine WK.cZ ok 1000 0 [(11,aj false)] [(4,250,bT,1)] [0,4,5] [true] [(aj (((List.length s:Nat):Int).tmod (2) != 0),aj false)] rfl (by kernel_rfl:aJ (bq SG) 1000 0 _ _ _ _ (dz 43 [.d (.str s)] [])=some (av Zn 0,Rn s (fq []) 0,_,_)) ⟨(by rfl),trivial⟩ ⟨(by exact ah e),trivial⟩ ?_;exact hk
 ·have e:((s.length:Int).tmod 2 != 0)=true:=by
   have:(s.length:Int).tmod 2=((s.length % 2:Nat):Int):=rfl
   rw [this,show s.length % 2=1 by omega];rfl
  have hq:eH s=none:=Bl (s.length / 2) s (by omega);exact WK.fin ok 1000 0 [(11,aj true)] [true] [(aj (((List.length s:Nat):Int).tmod (2) != 0),aj true)] rfl (by kernel_rfl:au (bq SG) true _ 1000 0 _ _ (dz 43 [.d (.str s)] [])=some (RV.aZ [dH [],aj false],[],_,_)) ⟨(by rfl),trivial⟩ ⟨(by exact ah e),trivial⟩ ⟨by rw [hq];rfl,rfl⟩
def Z4:DV→Option (RV×List Bool)
 | .str s=>some (E9 (eH s),[decide (s.length≤1000000)])
 | _=>none
theorem SI:bY Tryz.prog 76 (wK Z4):=by
 refine kR fun x y c hg hc=>?_;unfold Z4 at hg;split at hg
 ·rename_i s;simp only [Option.some.injEq,Prod.mk.injEq] at hg;obtain ⟨rfl,rfl⟩:=hg;exact Z0 s (of_decide_eq_true (hc _ (by simp:decide (s.length≤1000000)∈[decide (s.length≤1000000)])))
 ·cases hg
end Go.Proofs.YtjoefbioobdinaaGreatDoor
namespace Go.aQ
open Go.Lib
theorem drop1 {α:Type} {t:List α} {i:Nat} {c:α} (h:t[i]? = some c):t.drop i=c::t.drop (i+1):=by
 obtain ⟨k1,e1⟩:=List.getElem?_eq_some_iff.1 h;rw [List.drop_eq_getElem_cons k1,e1]
theorem ME {s:List UInt8} {a:UInt8} (h:s[0]? = some a):hasPrefix s [39]=decide (a=39):=by
 cases s with
 | nil=>cases h
 | cons x r=>
   simp at h;subst h;simp only [hasPrefix,List.isPrefixOf,Bool.and_true];by_cases e:x=39
   ·subst e;rfl
   ·rw [decide_eq_false e];exact beq_false_of_ne (Ne.symm e)
theorem Ro {s:List UInt8} {b:UInt8} (h:s[s.length-1]? = some b):hasSuffix s [39]=decide (b=39):=by
 have e:s.reverse[0]? = some b:=by
  have hl:0 < s.length:=by
   rcases List.getElem?_eq_some_iff.1 h with ⟨k,_⟩;omega
  rw [List.getElem?_reverse (by omega)];exact h
 have:=ME (s:=s.reverse) e
 rw [←this];rfl
def y5 (s:W):Option W:=if 2≤s.length∧hasPrefix s [39]=true∧hasSuffix s [39]=true then iK (inner s 1) else none
theorem PW {s:W} {a b:UInt8} (h:2≤s.length) (h1:s[0]? = some a) (h2:s[s.length-1]? = some b) (ha:a=39) (hb:b=39):y5 s=iK (inner s 1):=by
 unfold y5;rw [ME h1,Ro h2,if_pos ⟨h,by simp [ha],by simp [hb]⟩]
theorem MF {s:W} {a b:UInt8} (h1:s[0]? = some a) (h2:s[s.length-1]? = some b) (h:¬(a=39∧b=39)):y5 s=none:=by
 unfold y5;rw [ME h1,Ro h2,if_neg (by simp;intro _ x y;exact h ⟨x,y⟩)]
theorem J5 {s:W} (h:s.length < 2):y5 s=none:=by
 unfold y5;rw [if_neg (by omega)]
theorem y7 {c:UInt8} (r:W) (h:c≠39):iK (c::r)=(iK r).map (c :: ·):=by
 rw [iK.eq_def];simp only [if_neg h]
theorem Bn:iK [39]=none:=by decide +kernel
theorem Bo (r:W):iK (39::39::r)=(iK r).map (39 :: ·):=by
 rw [iK.eq_def];simp
theorem Bp {d:UInt8} (r:W) (h:d≠39):iK (39::d::r)=none:=by
 rw [iK.eq_def];simp [h]
theorem take_at {s:W} {i:Nat} (h:i < s.length-1):(s.take (s.length-1))[i]? = s[i]?:=by
 rw [List.getElem?_take,if_pos h]
theorem je {s:W} {i:Nat} (h:s.length-1≤i):(s.take (s.length-1)).drop i=[]:=by
 apply List.drop_eq_nil_of_le;rw [List.length_take];omega
theorem Dm:∀s:W,(indexByte s 32 = -1∧aQ.cut s=(s,[],false))∨∃i:Nat,i < s.length∧indexByte s 32=(i:Int)∧aQ.cut s=(s.take i,s.drop (i+1),true)
 | []=>.inl ⟨rfl,rfl⟩
 | b::l=>by
   rw [yU];unfold indexByte;by_cases h:b=32
   ·right;exact ⟨0,by simp,by simp [h],by simp [h]⟩
   ·rw [if_neg (by simpa using h),if_neg h];rcases Dm l with ⟨e1,e2⟩ | ⟨i,hi,e1,e2⟩
    ·left;rw [e1,e2];exact ⟨by decide,rfl⟩
    ·right;refine ⟨i+1,by simp;omega,?_,?_⟩
     ·rw [e1,if_neg (by simp)];omega
     ·rw [e2];rfl
theorem xI (s:W):(aQ.cut s).1.length≤s.length∧(aQ.cut s).2.1.length≤s.length:=by
 rcases Dm s with ⟨_,e⟩ | ⟨i,hi,_,e⟩
 ·rw [e];exact ⟨Nat.le_refl _,Nat.zero_le _⟩
 ·rw [e];simp only [List.length_take,List.length_drop];omega
theorem Dn (m:Bool) (r:W):(nT m r).length≤r.length+1:=by
 unfold nT;split
 ·have:=(xI r).1;omega
 ·simp
theorem oD (m:Bool) (r:W):(dh m r).length≤r.length:=by
 unfold dh;split
 ·exact (xI r).2
 ·exact Nat.le_refl _
theorem MG {l cs:List UInt8}:trimS l cs=[]↔(l.all fun c=>cs.contains c)=true:=by
 unfold trimS trimLeftS trimRightS;constructor
 ·intro h;rw [dropWhile_nil,List.all_reverse] at h;rw [←List.all_reverse,←List.takeWhile_append_dropWhile (p:=fun c=>cs.contains c) (l:=l.reverse),List.all_append,h,Bool.and_true];exact List.all_takeWhile
 ·intro h;have h2:l.reverse.dropWhile (fun c=>cs.contains c)=[]:=dropWhile_nil.2 (by rw [List.all_reverse];exact h);rw [h2];rfl
theorem I9 {w:W}:trimS w [43,45]=[]↔(w.all fun c=>c==43||c==45)=true:=by
 rw [MG]
 have e:(fun c:UInt8=>([43,45]:List UInt8).contains c)=fun c=>c==43||c==45:=by
  funext c;simp only [List.contains,List.elem];cases c==43<;>cases c==45<;>rfl
 rw [e]
end Go.aQ
namespace Go.Proofs.YtjoefbioobdinaaGreatDoor
open Go.RowKit Am
open Go.aQ hiding cut intOf take split
set_option maxRecDepth 100000
set_option linter.unusedVariables false
set_option linter.unusedSimpArgs false
noncomputable abbrev Xx:Code:=eG Tryz.f77
noncomputable abbrev nxC:Code:=eG Tryz.f137
def OE (s:W) (out:List DV) (k:Int):iU:={ n:=52,m:=0,regs:=T.mk [(1,.ptr 200 0),(4,.own 201 1),(5,.ptr 202 0),(6,.gG (.func 137) [] [.ptr 200 0,.ptr 202 0])],objs:=T.mk [(200,.box sT [.d (.str s)]),(201,.arr bT 1 out),(202,.box iT [.d (.int .i64 k)])] }
def Z5:kZ:=fun a o=>match a,o with
 | [.ptr 0 0,.ptr 1 0],[.box A [.d (.str s)],.box B [.d (.int .i64 k)]]=>
   some (.d (.int .u8 ((s.getD k.toNat 0).toNat:Nat)),[.box A [.d (.str s)],.box B [.d (.int .i64 (IntKind.i64.wrap (k+1)))]],[Nat.beq A sT,Nat.beq B iT,decide (0≤k∧k < (s.length:Int))])
 | _,_=>none
theorem SK:bY Tryz.prog 137 Z5:=by
 intro a o r o' c hg hc;unfold Z5 at hg;split at hg
 ·rename_i A s B k;simp only [Option.some.injEq,Prod.mk.injEq] at hg;obtain ⟨rfl,rfl,rfl⟩:=hg;have hA:=bV (hc (Nat.beq A sT) (by simp));have hB:=bV (hc (Nat.beq B iT) (by simp));have hk:=hc (decide (0≤k∧k < (s.length:Int))) (by simp);subst hA;subst hB;have ok:=aH (l:=[]) .nil;refine bn (fn:=Tryz.f137) (body:=nxC) true (by kernel_rfl) (by kernel_rfl) (by kernel_rfl) ?_;exact WK.fin ok 1000 0 [] [decide (0≤k∧k < ((List.length s:Nat):Int))] [] rfl (by kernel_rfl:au (bq []) true _ 1000 0 _ _ (dz 10 [.ptr 0 0,.ptr 1 0] [.box sT [.d (.str s)],.box iT [.d (.int .i64 k)]])=some (bK ((List.getD s k.toNat (0:UInt8)).toNat:Int),[ay.box 9 [dH s],ay.box 3 [aA (IntKind.i64.wrap (k+1))]],_,_)) ⟨(by first | rfl | exact hk),trivial⟩ trivial ⟨rfl,rfl⟩
 ·cases hg
noncomputable def OG:List (Nat×kZ):=[(137,Z5)]
theorem MH:eZ Tryz.prog OG:=.cons SK .nil
abbrev SL (s:W):bQ→Prop:=rR (Tryz.f77.results.toList) 0 (fun r o=>r=E9 (y5 s)∧o=[])
theorem MI {a:UInt8} (h:a=39):((Nat.cast (R:=Int) a.toNat) != 39)=false:=by subst h;rfl
theorem MJ {a:UInt8} (h:a≠39):((Nat.cast (R:=Int) a.toNat) != 39)=true:=by
 rw [bne_iff_ne];intro e
 exact h (UInt8.toNat_inj.1 (by have:a.toNat=39:=by omega
                                exact this))
theorem J6 {a:UInt8} (h:a=39):((Nat.cast (R:=Int) a.toNat)==39)=true:=by subst h;rfl
theorem Xy {a:UInt8} (h:a≠39):((Nat.cast (R:=Int) a.toNat)==39)=false:=by
 have:=MJ h
 rw [bne,Bool.not_eq_true'] at this;exact this
theorem MK {s:List UInt8} {c:UInt8} (h:s[0]? = some c):iI (.d (.int .u8 (((s.getD 0 0).toNat:Nat):Int))) (.d (.int .u8 ((c.toNat:Nat):Int))):=.of_eq (by
 rw [List.getD,h];rfl)
theorem ML {s:List UInt8} {c:UInt8} (h1:1≤s.length) (h2:s.length≤1000000) (h:s[s.length-1]? = some c):iI (.d (.int .u8 (((s.getD (IntKind.i64.wrap ((Nat.cast (R:=Int) s.length)-1)).toNat 0).toNat:Nat):Int))) (.d (.int .u8 ((c.toNat:Nat):Int))):=.of_eq (by
 rw [bC _ (by omega),show ((s.length:Int)-1).toNat=s.length-1 by omega,List.getD,h];rfl)
theorem nR (a:W) (c:UInt8):fq (a++[c])=fq a++[.int .u8 (Nat.cast (R:=Int) c.toNat)]:=by
 unfold fq;rw [List.map_append];rfl
set_option maxHeartbeats 4000000 in
theorem PX (s:W) (hs:s.length≤1000000) (h2:2≤s.length) (hy:y5 s=iK (inner s 1)):WK Tryz.prog 0 (av Xx 0) (OE s [] (1:Nat)).den (SL s):=by
 have ok:=aH MH;refine WK.rec' (fun p:W×Nat=>OE s (fq p.1) (p.2:Nat)) (fun p=>1≤p.2∧p.2≤s.length-1∧p.1.length≤p.2∧y5 s=(iK ((s.take (s.length-1)).drop p.2)).map (p.1 ++ ·)) (fun p=>s.length-p.2) ?_ ([],1) ⟨by omega,by simp only;omega,by simp,by rw [hy];simp [inner]⟩
 rintro ⟨pre,i⟩ ⟨hi1,hi,hl,hb⟩ ih
 simp only at hi1 hi hl hb;have wr:IntKind.i64.wrap ((Nat.cast (R:=Int) s.length)-1)=((s.length-1:Nat):Int):=by rw [bC _ (by omega)];omega
 have wi:IntKind.i64.wrap ((Nat.cast (R:=Int) i)+1)=((i+1:Nat):Int):=by rw [bC _ (by omega)];omega
 have c9:∀c:Int,decide (((fq pre).length+[DV.int .u8 c].length)*1≤2 ^ 38)=true:=fun c=>decide_eq_true (by unfold fq;rw [List.length_map];simp only [List.length_cons,List.length_nil];omega);by_cases he:i < s.length-1
 ·have ci:=uq (n:=s.length) (i:=i) (by omega);obtain ⟨a,ha⟩:∃a,s[i]? = some a:=⟨_,List.getElem?_eq_getElem (by omega)⟩;have v1:=lg ha;have hd:(s.take (s.length-1)).drop i=a::(s.take (s.length-1)).drop (i+1):=drop1 (by rw [take_at he];exact ha);rw [hd] at hb;by_cases zy:a=39
  ·by_cases hz:i+1=s.length-1
   ·have hq:y5 s=none:=by rw [hb,je (by omega),zy,Bn];rfl
    exact WK.fin ok 1000 0 [(29,aj true),(31,bK (a.toNat:Int)),(33,aj true),(39,aj true),(44,aj true),(45,aj true)] [true,true,decide (0≤(i:Int)∧(i:Int) < ((List.length s:Nat):Int))] [(aj (decide ((i:Int) < IntKind.i64.wrap (((List.length s:Nat):Int)-1))),aj true),(bK ((List.getD s (i:Int).toNat (0:UInt8)).toNat:Int),bK (a.toNat:Int)),(aj ((a.toNat:Int)==39),aj true),(aj (IntKind.i64.wrap ((i:Int)+1)==IntKind.i64.wrap (((List.length s:Nat):Int)-1)),aj true),(aj true,aj true),(aj true,aj true)] rfl (by kernel_rfl:au (bq OG) true _ 1000 0 _ _ (OE s (fq pre) (i:Nat))=some (RV.aZ [dH [],aj false],[],_,_)) (by refine ⟨?_,?_,?_,trivial⟩<;>(first | rfl | exact ci)) (by refine ⟨?_,?_,?_,?_,?_,?_,trivial⟩<;>(first | exact ah rfl | exact v1 | exact ah (J6 zy) | exact ah (by rw [wr];exact decide_eq_true (by omega)) | exact ah (by rw [wr,wi];exact beq_iff_eq.2 (by omega)))) ⟨by rw [hq];rfl,rfl⟩
   ·have hi2:i+1 < s.length-1:=by omega
    obtain ⟨b,hb1⟩:∃b,s[i+1]? = some b:=⟨_,List.getElem?_eq_getElem (by omega)⟩;have v2:=uw (i:=i) (by omega) hb1;have c2:=Dl (n:=s.length) (i:=i) (by omega) (by omega);have hd2:(s.take (s.length-1)).drop (i+1)=b::(s.take (s.length-1)).drop (i+2):=drop1 (by rw [take_at hi2];exact hb1);rw [hd2,zy] at hb;by_cases GN:b=39
    ·rw [GN,Bo,Option.map_map] at hb
     have hk2:=ih (pre++[a],i+2) ⟨by simp only;omega,by simp only;omega,by rw [List.length_append];simp only [List.length_cons,List.length_nil];omega,by
      rw [hb];congr 1;funext q;simp [zy]⟩ (by simp only;omega)
     have e6:((i+2:Nat):Int)=IntKind.i64.wrap (IntKind.i64.wrap ((Nat.cast (R:=Int) i)+1)+1):=by rw [wi,bC _ (by omega)];omega
     simp only at hk2;rw [nR,e6] at hk2;refine WK.cZ ok 1000 0 [(29,aj true),(31,bK (a.toNat:Int)),(33,aj true),(39,aj false),(42,bK (b.toNat:Int)),(43,aj false),(44,aj false),(45,aj false)] [] [1,4,5,6] [true,true,decide (0≤(i:Int)∧(i:Int) < ((List.length s:Nat):Int)),true,true,decide (0≤IntKind.i64.wrap ((i:Int)+1)∧IntKind.i64.wrap ((i:Int)+1) < ((List.length s:Nat):Int)),decide (((fq pre).length+[aU (a.toNat:Int)].length)*Go.Proofs.Tryz.prog.types[5].bytes≤2 ^ 38)] [(aj (decide ((i:Int) < IntKind.i64.wrap (((List.length s:Nat):Int)-1))),aj true),(bK ((List.getD s (i:Int).toNat (0:UInt8)).toNat:Int),bK (a.toNat:Int)),(aj ((a.toNat:Int)==39),aj true),(aj (IntKind.i64.wrap ((i:Int)+1)==IntKind.i64.wrap (((List.length s:Nat):Int)-1)),aj false),(bK ((List.getD s (IntKind.i64.wrap ((i:Int)+1)).toNat (0:UInt8)).toNat:Int),bK (b.toNat:Int)),(aj ((b.toNat:Int) != 39),aj false),(aj false,aj false),(aj false,aj false)] rfl (by kernel_rfl:aJ (bq OG) 1000 0 _ _ _ _ (OE s (fq pre) (i:Nat))=some (av Xx 0,OE s (fq pre++[.int .u8 (a.toNat:Int)]) (IntKind.i64.wrap (IntKind.i64.wrap ((i:Int)+1)+1)),_,_)) (by refine ⟨?_,?_,?_,?_,?_,?_,?_,trivial⟩<;>(first | rfl | exact ci | exact c2 | exact c9 _)) (by refine ⟨?_,?_,?_,?_,?_,?_,?_,?_,trivial⟩<;>(first | exact ah rfl | exact v1 | exact v2 | exact ah (J6 zy) | exact ah (MI GN) | exact ah (by rw [wr];exact decide_eq_true (by omega)) | exact ah (by rw [wr,wi];exact beq_false_of_ne (by omega)))) ?_
     exact hk2
    ·have hq:y5 s=none:=by rw [hb,Bp _ GN];rfl
     exact WK.fin ok 1000 0 [(29,aj true),(31,bK (a.toNat:Int)),(33,aj true),(39,aj false),(42,bK (b.toNat:Int)),(43,aj true),(44,aj true),(45,aj true)] [true,true,decide (0≤(i:Int)∧(i:Int) < ((List.length s:Nat):Int)),true,true,decide (0≤IntKind.i64.wrap ((i:Int)+1)∧IntKind.i64.wrap ((i:Int)+1) < ((List.length s:Nat):Int))] [(aj (decide ((i:Int) < IntKind.i64.wrap (((List.length s:Nat):Int)-1))),aj true),(bK ((List.getD s (i:Int).toNat (0:UInt8)).toNat:Int),bK (a.toNat:Int)),(aj ((a.toNat:Int)==39),aj true),(aj (IntKind.i64.wrap ((i:Int)+1)==IntKind.i64.wrap (((List.length s:Nat):Int)-1)),aj false),(bK ((List.getD s (IntKind.i64.wrap ((i:Int)+1)).toNat (0:UInt8)).toNat:Int),bK (b.toNat:Int)),(aj ((b.toNat:Int) != 39),aj true),(aj true,aj true),(aj true,aj true)] rfl (by kernel_rfl:au (bq OG) true _ 1000 0 _ _ (OE s (fq pre) (i:Nat))=some (RV.aZ [dH [],aj false],[],_,_)) (by refine ⟨?_,?_,?_,?_,?_,?_,trivial⟩<;>(first | rfl | exact ci | exact c2)) (by refine ⟨?_,?_,?_,?_,?_,?_,?_,?_,trivial⟩<;>(first | exact ah rfl | exact v1 | exact v2 | exact ah (J6 zy) | exact ah (MJ GN) | exact ah (by rw [wr];exact decide_eq_true (by omega)) | exact ah (by rw [wr,wi];exact beq_false_of_ne (by omega)))) ⟨by rw [hq];rfl,rfl⟩
  ·rw [y7 _ zy,Option.map_map] at hb
   have hk2:=ih (pre++[a],i+1) ⟨by simp only;omega,by simp only;omega,by rw [List.length_append];simp only [List.length_cons,List.length_nil];omega,by
    rw [hb];congr 1;funext q;simp⟩ (by simp only;omega)
   simp only at hk2;rw [nR,←wi] at hk2;refine WK.cZ ok 1000 0 [(29,aj true),(31,bK (a.toNat:Int)),(33,aj false),(45,aj false)] [] [1,4,5,6] [true,true,decide (0≤(i:Int)∧(i:Int) < ((List.length s:Nat):Int)),decide (((fq pre).length+[aU (a.toNat:Int)].length)*Go.Proofs.Tryz.prog.types[5].bytes≤2 ^ 38)] [(aj (decide ((i:Int) < IntKind.i64.wrap (((List.length s:Nat):Int)-1))),aj true),(bK ((List.getD s (i:Int).toNat (0:UInt8)).toNat:Int),bK (a.toNat:Int)),(aj ((a.toNat:Int)==39),aj false),(aj false,aj false)] rfl (by kernel_rfl:aJ (bq OG) 1000 0 _ _ _ _ (OE s (fq pre) (i:Nat))=some (av Xx 0,OE s (fq pre++[.int .u8 (a.toNat:Int)]) (IntKind.i64.wrap ((i:Int)+1)),_,_)) (by refine ⟨?_,?_,?_,?_,trivial⟩<;>(first | rfl | exact ci | exact c9 _)) (by refine ⟨?_,?_,?_,?_,trivial⟩<;>(first | exact ah rfl | exact v1 | exact ah (Xy zy) | exact ah (by rw [wr];exact decide_eq_true (by omega)))) ?_
   exact hk2
 ·have hq:y5 s=some pre:=by rw [hb,je (by omega)];simp [iK]
  have c4:(fq pre).all DV.isByte=true:=oC pre;exact WK.fin ok 1000 0 [(29,aj false)] [(fq pre).all DV.isByte] [(aj (decide ((i:Int) < IntKind.i64.wrap (((List.length s:Nat):Int)-1))),aj false)] rfl (by kernel_rfl:au (bq OG) true _ 1000 0 _ _ (OE s (fq pre) (i:Nat))=some (RV.aZ [dH (List.map DV.byte (fq pre)),aj true],[],_,_)) ⟨(by first | rfl | exact c4),trivial⟩ ⟨(by first | exact ah rfl | exact ah (by rw [wr];exact decide_eq_false (by omega))),trivial⟩ ⟨by rw [hq];simp only [E9,pQ,Option.getD_some,Option.isSome_some],rfl⟩
set_option maxHeartbeats 2000000 in
theorem Z6 (s:W) (hs:s.length≤1000000):Go.Am.C Tryz.prog 77 [.d (.str s)] [] (fun r o=>r=E9 (y5 s)∧o=[]):=by
 have ok:=aH MH;refine bn (fn:=Tryz.f77) (body:=Xx) true (by kernel_rfl) (by kernel_rfl) (by kernel_rfl) ?_;by_cases hl:s.length < 2
 ·have hq:=J5 hl;exact WK.fin ok 1000 0 [(10,aj true),(15,aj true),(23,aj true)] [] [(aj (decide (((List.length s:Nat):Int) < 2)),aj true),(aj true,aj true),(aj true,aj true)] rfl (by kernel_rfl:au (bq OG) true _ 1000 0 _ _ (dz 52 [.d (.str s)] [])=some (RV.aZ [dH [],aj false],[],_,_)) trivial (by refine ⟨?_,?_,?_,trivial⟩<;>(first | exact ah rfl | exact ah (decide_eq_true (by omega)))) ⟨by rw [hq];rfl,rfl⟩
 ·obtain ⟨a,ha⟩:∃a,s[0]? = some a:=⟨_,List.getElem?_eq_getElem (by omega)⟩;obtain ⟨b,hb⟩:∃b,s[s.length-1]? = some b:=⟨_,List.getElem?_eq_getElem (by omega)⟩;have wr:IntKind.i64.wrap ((Nat.cast (R:=Int) s.length)-1)=((s.length-1:Nat):Int):=by rw [bC _ (by omega)];omega
  have c0:decide ((0:Int)≤0∧0 < (Nat.cast (R:=Int) s.length))=true:=decide_eq_true (by omega);have c1:decide ((0:Int)≤IntKind.i64.wrap ((Nat.cast (R:=Int) s.length)-1)∧IntKind.i64.wrap ((Nat.cast (R:=Int) s.length)-1) < (Nat.cast (R:=Int) s.length))=true:=by rw [wr];exact decide_eq_true (by omega)
  have v0:=MK ha;have v1:=ML (by omega) hs hb;by_cases zy:a=39
  ·by_cases GN:b=39
   ·have hk:=PX s hs (by omega) (PW (by omega) ha hb zy GN);refine WK.cZ ok 1000 0 [(10,aj false),(13,bK (a.toNat:Int)),(14,aj false),(15,aj false),(21,bK (b.toNat:Int)),(22,aj false),(23,aj false)] [(4,250,bT,1)] [1,4,5,6] [decide ((0:Int)≤0∧(0:Int) < ((List.length s:Nat):Int)),decide (0≤IntKind.i64.wrap (((List.length s:Nat):Int)-1)∧IntKind.i64.wrap (((List.length s:Nat):Int)-1) < ((List.length s:Nat):Int))] [(aj (decide (((List.length s:Nat):Int) < 2)),aj false),(bK ((List.getD s 0 (0:UInt8)).toNat:Int),bK (a.toNat:Int)),(aj ((a.toNat:Int) != 39),aj false),(aj false,aj false),(bK ((List.getD s (IntKind.i64.wrap (((List.length s:Nat):Int)-1)).toNat (0:UInt8)).toNat:Int),bK (b.toNat:Int)),(aj ((b.toNat:Int) != 39),aj false),(aj false,aj false)] rfl (by kernel_rfl:aJ (bq OG) 1000 0 _ _ _ _ (dz 52 [.d (.str s)] [])=some (av Xx 0,OE s (fq []) (1:Nat),_,_)) (by refine ⟨?_,?_,trivial⟩<;>(first | rfl | exact c0 | exact c1)) (by refine ⟨?_,?_,?_,?_,?_,?_,?_,trivial⟩<;>(first | exact ah rfl | exact v0 | exact v1 | exact ah (MI zy) | exact ah (MI GN) | exact ah (decide_eq_false (by omega)))) ?_
    exact hk
   ·have hq:=MF ha hb (fun h=>GN h.2);exact WK.fin ok 1000 0 [(10,aj false),(13,bK (a.toNat:Int)),(14,aj false),(15,aj false),(21,bK (b.toNat:Int)),(22,aj true),(23,aj true)] [decide ((0:Int)≤0∧(0:Int) < ((List.length s:Nat):Int)),decide (0≤IntKind.i64.wrap (((List.length s:Nat):Int)-1)∧IntKind.i64.wrap (((List.length s:Nat):Int)-1) < ((List.length s:Nat):Int))] [(aj (decide (((List.length s:Nat):Int) < 2)),aj false),(bK ((List.getD s 0 (0:UInt8)).toNat:Int),bK (a.toNat:Int)),(aj ((a.toNat:Int) != 39),aj false),(aj false,aj false),(bK ((List.getD s (IntKind.i64.wrap (((List.length s:Nat):Int)-1)).toNat (0:UInt8)).toNat:Int),bK (b.toNat:Int)),(aj ((b.toNat:Int) != 39),aj true),(aj true,aj true)] rfl (by kernel_rfl:au (bq OG) true _ 1000 0 _ _ (dz 52 [.d (.str s)] [])=some (RV.aZ [dH [],aj false],[],_,_)) (by refine ⟨?_,?_,trivial⟩<;>(first | rfl | exact c0 | exact c1)) (by refine ⟨?_,?_,?_,?_,?_,?_,?_,trivial⟩<;>(first | exact ah rfl | exact v0 | exact v1 | exact ah (MI zy) | exact ah (MJ GN) | exact ah (decide_eq_false (by omega)))) ⟨by rw [hq];rfl,rfl⟩
  ·have hq:=MF ha hb (fun h=>zy h.1);exact WK.fin ok 1000 0 [(10,aj false),(13,bK (a.toNat:Int)),(14,aj true),(15,aj true),(23,aj true)] [decide ((0:Int)≤0∧(0:Int) < ((List.length s:Nat):Int))] [(aj (decide (((List.length s:Nat):Int) < 2)),aj false),(bK ((List.getD s 0 (0:UInt8)).toNat:Int),bK (a.toNat:Int)),(aj ((a.toNat:Int) != 39),aj true),(aj true,aj true),(aj true,aj true)] rfl (by kernel_rfl:au (bq OG) true _ 1000 0 _ _ (dz 52 [.d (.str s)] [])=some (RV.aZ [dH [],aj false],[],_,_)) ⟨(by first | rfl | exact c0),trivial⟩ (by refine ⟨?_,?_,?_,?_,?_,trivial⟩<;>(first | exact ah rfl | exact v0 | exact ah (MJ zy) | exact ah (decide_eq_false (by omega)))) ⟨by rw [hq];rfl,rfl⟩
def Z7:DV→Option (RV×List Bool)
 | .str s=>some (E9 (y5 s),[decide (s.length≤1000000)])
 | _=>none
theorem SN:bY Tryz.prog 77 (wK Z7):=by
 refine kR fun x y c hg hc=>?_;unfold Z7 at hg;split at hg
 ·rename_i s;simp only [Option.some.injEq,Prod.mk.injEq] at hg;obtain ⟨rfl,rfl⟩:=hg;exact Z6 s (of_decide_eq_true (hc _ (by simp:decide (s.length≤1000000)∈[decide (s.length≤1000000)])))
 ·cases hg
end Go.Proofs.YtjoefbioobdinaaGreatDoor
namespace Go.Proofs.YtjoefbioobdinaaGreatDoor
open Go.RowKit Am
open Go.aQ hiding cut intOf take split
set_option maxRecDepth 100000
set_option linter.unusedVariables false
def Fa (s:W):Int:=match Lib.parseIntB 64 s with
 | .ok n=>n
 | .range=>Lib.intSat 64 s
 | _=>0
def Z8:DV→Option (DV×List Bool)
 | .str s=>some (.aZ [.int .i64 (Fa s),.bool (aQ.intOf s).isSome],[decide (s.length≤1000000)])
 | _=>none
theorem MN {κ:bB} {w:World} (h:BJ κ w) {g:Nat} (hg:(g,vI)∈Gl.gl) {nm:String} (hn:Tryz.prog.globalNamed nm=some g):∃te pe,w.var? Tryz.prog nm=some #[.iface te pe]:=by
 obtain ⟨_,c,ty,fz,h2,te,pe,h3⟩:=h.gl _ hg;have h2:w.heap[g]? = _:=h2;subst h3;exact ⟨te,pe,by unfold World.var?;rw [hn];simp only [Option.bind_some,h2]⟩
theorem Fb {s:W} (h:∀n,Lib.parseIntB 64 s≠.ok n):aQ.intOf s=none:=by
 cases hn:aQ.intOf s with
 | none=>rfl
 | some n=>exact absurd (by rw [Lib.parseIntB_64];exact (aQ.qH.1 hn).1) (h n)
set_option maxHeartbeats 1000000 in
theorem SQ (s:W) (hs:s.length≤1000000) (n:Int) (h:Lib.parseIntB 64 s = .ok n) (w:World) (ht:Lib.TabIs Tryz.prog w "internal/strconv.uint64pow10" .u64 Lib.pow10Tab) :
 Calls Tryz.prog 78 #[.string ⟨s.toArray⟩] w fun e w'=>e = .returned (.tuple #[.int .i64 n,.bool (Lib.itoa n==s)])∧Below w.heap.size w w':=by
 have hz:(ByteArray.mk s.toArray).size=s.length:=by simp [ByteArray.size]
 have hb:=Lib.parseIntB_bounds h;have HP:=Lib.hid (Tryz.strconv_ParseInt_10_at64_ok ⟨s.toArray⟩ (by omega) n h w)
 have HF:=Lib.hid (fun (w1:World) (hw:w1=w∨∃t,w1=Lib.bytesWorld w 5 t)=>
  Tryz.strconv_FormatInt_10 n (by omega) (by omega) w1 (by
   rcases hw with rfl | ⟨t,rfl⟩
   ·exact ht
   ·exact Go.Joins.tab_stays yS ht (Lib.bytesWorld_below w _ t) (Nat.le_refl _)))
 have HB:=Lib.hid (fun (w1:World) (hw:w1=w∨∃t,w1=Lib.bytesWorld w 5 t)=>show Below w.heap.size w w1 from by
  rcases hw with rfl | ⟨t,rfl⟩
  ·exact Below.refl _ _
  ·exact Lib.bytesWorld_below w _ t)
 generalize Lib.itoa n=q at *;clear hb h ht hz hs
 go_enter Tryz.func78,Tryz.ntmps78
 go_wp2_with (first
  | (go_at_call 138;refine HP.out.mono ?_;rintro e w1 ⟨rfl,b1⟩)
  | (go_at_call 128;refine (HF.out _ b1).mono ?_;rintro e w2 ⟨rfl,k,os,rfl⟩))
 go_ret2
 exact ⟨rfl,(HB.out _ b1).trans (Lib.below_grow _ _ (HB.out _ b1).size k os)⟩
set_option maxHeartbeats 1000000 in
theorem Ja (s:W) (v:Int) (w:World) (hp:Calls Tryz.prog 138 #[.string ⟨s.toArray⟩,.int .i64 10,.int .i64 64] w fun e w'=>∃T p,e = .returned (.tuple #[.int .i64 v,.iface T p])∧Below w.heap.size w w') :
 Calls Tryz.prog 78 #[.string ⟨s.toArray⟩] w fun e w'=>e = .returned (.tuple #[.int .i64 v,.bool false])∧Below w.heap.size w w':=by
 have HP:=Lib.hid hp;clear hp
 go_enter Tryz.func78,Tryz.ntmps78
 go_wp2_with (first
  | (go_at_call 138;refine HP.out.mono ?_;rintro e w1 ⟨T,p,rfl,b1⟩))
 go_ret2
 exact ⟨rfl,b1⟩
theorem SS:bY Tryz.prog 78 (e1 Z8):=by
 refine II fun x y c hg hc=>?_;unfold Z8 at hg;split at hg
 ·rename_i s;simp only [Option.some.injEq,Prod.mk.injEq] at hg;obtain ⟨rfl,rfl⟩:=hg;have hs:=of_decide_eq_true (hc (decide (s.length≤1000000)) (by simp));have hz:(ByteArray.mk s.toArray).size=s.length:=by simp [ByteArray.size]
  refine IG (args:=[.str s]) (us:=[.string ⟨s.toArray⟩]) (v:=.tuple #[.int .i64 (Fa s),.bool (aQ.intOf s).isSome]) rfl rfl fun κ w hb=>?_;cases h:Lib.parseIntB 64 s with
  | ok n=>
    have e1:Fa s=n:=by unfold Fa;rw [h]
    have e2:(aQ.intOf s).isSome=(Lib.itoa n==s):=by
     rw [Lib.parseIntB_64] at h;by_cases hq:Lib.itoa n=s
     ·rw [aQ.qH.2 ⟨h,hq⟩,hq];simp
     ·have:aQ.intOf s=none:=by
       cases hn:aQ.intOf s with
       | none=>rfl
       | some m=>
         obtain ⟨h1,h2⟩:=aQ.qH.1 hn;rw [h] at h1;injection h1 with h1;exact absurd (h1▸h2) hq
      rw [this,beq_false_of_ne hq];rfl
    rw [e1,e2];exact SQ s hs n h w (Sr hb)
  | range=>
    have e1:Fa s=Lib.intSat 64 s:=by unfold Fa;rw [h]
    have e2:aQ.intOf s=none:=Fb (by intro n;rw [h];simp);rw [e1,e2];obtain ⟨te,pe,hv⟩:=MN hb Sq ET;refine Ja s (Lib.intSat 64 s) w ((Tryz.strconv_ParseInt_10_at64_range_var ⟨s.toArray⟩ (by omega) h te pe w hv).mono ?_)
    rintro e w' ⟨N,rfl,_,_,hw⟩
    exact ⟨_,_,rfl,hw⟩
  | _=>
    have e1:Fa s=0:=by unfold Fa;rw [h]
    have e2:aQ.intOf s=none:=Fb (by intro n;rw [h];simp);rw [e1,e2];obtain ⟨te,pe,hv⟩:=MN hb Sn ES;refine Ja s 0 w ((Tryz.strconv_ParseInt_10_at64_syntax_var ⟨s.toArray⟩ (by omega) h te pe w hv).mono ?_)
    rintro e w' ⟨N,rfl,_,_,hw⟩
    exact ⟨_,_,rfl,hw⟩
 ·cases hg
end Go.Proofs.YtjoefbioobdinaaGreatDoor
namespace Go.Proofs.YtjoefbioobdinaaGreatDoor
open Go.RowKit Am
open Go.aQ hiding cut intOf take split
set_option maxRecDepth 100000
set_option linter.unusedVariables false
set_option linter.unusedSimpArgs false
noncomputable abbrev Z9:Code:=eG Tryz.f79
noncomputable abbrev vrC:Code:=eG Tryz.f37
noncomputable abbrev ciC:Code:=eG Tryz.f20
noncomputable abbrev flC:Code:=eG Tryz.f17
theorem ck1 (n:Int):Go.Am.C Tryz.prog 79 [.d (.agg [.int .u8 1,.int .i64 n,.str []])] [] (fun r o=>r = .d (.int .i64 0)∧o=[]):=by
 have ok:=pO (l:=[]) .nil 1;refine bn (fn:=Tryz.f79) (body:=Z9) true (by kernel_rfl) (by kernel_rfl) (by kernel_rfl) ?_;exact WK.fin ok 1000 0 [(11,aj false),(15,aj false)] [] [(aj (match decide (3 < 1) with | true=>true | false=>!(1==1&&(n==n&&([]==([]:List UInt8)&&true)))),aj false),(aj false,aj false)] rfl (by kernel_rfl:au (I5 [] 1) true _ 1000 0 _ _ (dz 16 [.d (.agg [.int .u8 1,.int .i64 n,.str []])] [])=some (aA (0),[],_,_)) trivial (by refine ⟨?_,?_,trivial⟩<;>(first | exact ah rfl | exact ah (by simp))) ⟨rfl,rfl⟩
theorem ck2 (s:W):Go.Am.C Tryz.prog 79 [.d (.agg [.int .u8 2,.int .i64 0,.str s])] [] (fun r o=>r = .d (.int .i64 (if s.length≤1000 then 0 else 3))∧o=[]):=by
 have ok:=pO (l:=[]) .nil 1;refine bn (fn:=Tryz.f79) (body:=Z9) true (by kernel_rfl) (by kernel_rfl) (by kernel_rfl) ?_;by_cases h:s.length≤1000
 ·skip
  exact WK.fin ok 1000 0 [(11,aj false),(15,aj false)] [] [(aj (match decide (3 < 2) with | true=>true | false=>!(2==2&&(0==0&&(s==s&&true)))),aj false),(aj (decide (1000 < ((List.length s:Nat):Int))),aj false)] rfl (by kernel_rfl:au (I5 [] 1) true _ 1000 0 _ _ (dz 16 [.d (.agg [.int .u8 2,.int .i64 0,.str s])] [])=some (aA (0),[],_,_)) trivial (by refine ⟨?_,?_,trivial⟩<;>(first | exact ah (decide_eq_false (by omega)) | exact ah (by simp))) ⟨by rw [if_pos h],rfl⟩
 ·skip
  exact WK.fin ok 1000 0 [(11,aj false),(15,aj true)] [] [(aj (match decide (3 < 2) with | true=>true | false=>!(2==2&&(0==0&&(s==s&&true)))),aj false),(aj (decide (1000 < ((List.length s:Nat):Int))),aj true)] rfl (by kernel_rfl:au (I5 [] 1) true _ 1000 0 _ _ (dz 16 [.d (.agg [.int .u8 2,.int .i64 0,.str s])] [])=some (aA (3),[],_,_)) trivial (by refine ⟨?_,?_,trivial⟩<;>(first | exact ah (decide_eq_true (by omega)) | exact ah (by simp))) ⟨by rw [if_neg h],rfl⟩
theorem ck3 (s:W):Go.Am.C Tryz.prog 79 [.d (.agg [.int .u8 3,.int .i64 0,.str s])] [] (fun r o=>r = .d (.int .i64 (if s.length≤1000 then 0 else 3))∧o=[]):=by
 have ok:=pO (l:=[]) .nil 1;refine bn (fn:=Tryz.f79) (body:=Z9) true (by kernel_rfl) (by kernel_rfl) (by kernel_rfl) ?_;by_cases h:s.length≤1000
 ·skip
  exact WK.fin ok 1000 0 [(11,aj false),(15,aj false)] [] [(aj (match decide (3 < 3) with | true=>true | false=>!(3==3&&(0==0&&(s==s&&true)))),aj false),(aj (decide (1000 < ((List.length s:Nat):Int))),aj false)] rfl (by kernel_rfl:au (I5 [] 1) true _ 1000 0 _ _ (dz 16 [.d (.agg [.int .u8 3,.int .i64 0,.str s])] [])=some (aA (0),[],_,_)) trivial (by refine ⟨?_,?_,trivial⟩<;>(first | exact ah (decide_eq_false (by omega)) | exact ah (by simp))) ⟨by rw [if_pos h],rfl⟩
 ·skip
  exact WK.fin ok 1000 0 [(11,aj false),(15,aj true)] [] [(aj (match decide (3 < 3) with | true=>true | false=>!(3==3&&(0==0&&(s==s&&true)))),aj false),(aj (decide (1000 < ((List.length s:Nat):Int))),aj true)] rfl (by kernel_rfl:au (I5 [] 1) true _ 1000 0 _ _ (dz 16 [.d (.agg [.int .u8 3,.int .i64 0,.str s])] [])=some (aA (3),[],_,_)) trivial (by refine ⟨?_,?_,trivial⟩<;>(first | exact ah (decide_eq_true (by omega)) | exact ah (by simp))) ⟨by rw [if_neg h],rfl⟩
def ckE:DV→Option (DV×List Bool)
 | .agg [.int .u8 (.ofNat 1),.int .i64 n,.str []]=>some (.int .i64 0,[])
 | .agg [.int .u8 (.ofNat 2),.int .i64 (.ofNat 0),.str s]=>some (.int .i64 (if s.length≤1000 then 0 else 3),[])
 | .agg [.int .u8 (.ofNat 3),.int .i64 (.ofNat 0),.str s]=>some (.int .i64 (if s.length≤1000 then 0 else 3),[])
 | _=>none
theorem SV:bY Tryz.prog 79 (e1 ckE):=by
 refine II fun x y c hg hc=>?_;unfold ckE at hg;split at hg
 ·simp only [Option.some.injEq,Prod.mk.injEq] at hg;obtain ⟨rfl,rfl⟩:=hg;exact ck1 _
 ·simp only [Option.some.injEq,Prod.mk.injEq] at hg;obtain ⟨rfl,rfl⟩:=hg;exact ck2 _
 ·simp only [Option.some.injEq,Prod.mk.injEq] at hg;obtain ⟨rfl,rfl⟩:=hg;exact ck3 _
 ·cases hg
noncomputable def Jb:List (Nat×kZ):=[(74,e2 ZT),(75,e2 ZU),(76,wK Z4),(77,wK Z7),(78,e1 Z8),(79,e1 ckE)]
theorem SX:eZ Tryz.prog Jb:=.cons Sz (.cons SA (.cons SI (.cons SN (.cons SS (.cons SV .nil)))))
def SY (v:VR):RV:=.aZ [.d (.agg [.int .u8 v.1,.int .i64 v.2.1,.str v.2.2.1]),.d (.int .i64 v.2.2.2)]
theorem S9:vP 6 3 uJ=(0,0,[],0):=by unfold vP;rw [if_pos rfl]
theorem aac {s:W} (h0:s≠uJ) (h:Lib.hasPrefix s [120,39]=true∧Lib.hasSuffix s [39]=true∧2 < s.length):vP 6 3 s=Bc 3 6 3 (eH (inner s 2)):=by
 unfold vP;rw [if_neg h0,if_pos h]
theorem Jc {s:W} (h:Lib.hasPrefix s [39]=true):Lib.hasPrefix s [120,39]=false:=by
 cases s with
 | nil=>cases h
 | cons c r=>
   simp only [Lib.hasPrefix,List.isPrefixOf,Bool.and_true] at h
   have:=beq_iff_eq.1 h
   subst this;rfl
theorem aad {s:W} (h0:s≠uJ) (h:Lib.hasPrefix s [39]=true):vP 6 3 s=Bc 2 6 3 (y5 s):=by
 unfold vP;rw [if_neg h0,if_neg (by rw [Jc h];simp),if_pos h];unfold y5;simp only [h,true_and]
theorem aae {s:W} (h0:s≠uJ) (h1:¬(Lib.hasPrefix s [120,39]=true∧Lib.hasSuffix s [39]=true∧2 < s.length)) (h:Lib.hasPrefix s [39]=false):vP 6 3 s=match aQ.intOf s with
 | some n=>(1,n,[],0)
 | none=>(0,0,[],6):=by
 unfold vP;rw [if_neg h0,if_neg h1,if_neg (by rw [h];simp)];rfl
theorem kT {s:W} (h:s≠uJ):(s==[(78:UInt8),(85:UInt8),(76:UInt8),(76:UInt8)])=false:=beq_false_of_ne h
theorem MO {s:W} {n:Int} (h:aQ.intOf s=some n):Fa s=n:=by
 have:=(aQ.qH.1 h).1
 unfold Fa;rw [Lib.parseIntB_64,this]
set_option maxHeartbeats 4000000 in
theorem aaf (s:W) (hs:s.length≤1000000):Go.Am.C Tryz.prog 37 [.d (.str s)] [] (fun r o=>r=SY (vP 6 3 s)∧o=[]):=by
 have ok:=aH SX;refine bn (fn:=Tryz.f37) (body:=vrC) true (by kernel_rfl) (by kernel_rfl) (by kernel_rfl) ?_;by_cases h0:s=uJ
 ·subst h0;have hq:=S9;exact WK.fin ok 1000 0 [(17,aj true)] [] [(aj (uJ==[(78:UInt8),(85:UInt8),(76:UInt8),(76:UInt8)]),aj true)] rfl (by kernel_rfl:au (bq Jb) true _ 1000 0 _ _ (dz 62 [.d (.str uJ)] [])=some (RV.aZ [RV.d (DV.agg [aU (0),aI (0),DV.str []]),aA (0)],[],_,_)) trivial ⟨(by exact ah rfl),trivial⟩ ⟨by rw [hq];rfl,rfl⟩
 have e0:=kT h0;have b1:Nat.ble s.length 1000000000=true:=Nat.ble_eq_true_of_le (by omega);have b2:decide (s.length≤1000000)=true:=decide_eq_true hs;by_cases hx:Lib.hasPrefix s [120,39]=true∧Lib.hasSuffix s [39]=true∧2 < s.length
 ·obtain ⟨x1,x2,x3⟩:=hx;have hv:=aac h0 ⟨x1,x2,x3⟩;have wr:IntKind.i64.wrap ((Nat.cast (R:=Int) s.length)-1)=((s.length-1:Nat):Int):=by rw [bC _ (by omega)];omega
  have c1:decide ((0:Int)≤IntKind.i64.wrap ((Nat.cast (R:=Int) s.length)-1)∧IntKind.i64.wrap ((Nat.cast (R:=Int) s.length)-1)≤(Nat.cast (R:=Int) s.length))=true:=by rw [wr];exact decide_eq_true (by omega)
  have c2:decide ((0:Int)≤2∧2≤(Nat.cast (R:=Int) (IntKind.i64.wrap ((Nat.cast (R:=Int) s.length)-1)).toNat))=true:=by rw [wr];exact decide_eq_true (by omega)
  obtain ⟨w,hw⟩:∃w,inner s 2=w:=⟨_,rfl⟩
  have e1:bM s (some 2) (some (IntKind.i64.wrap ((Nat.cast (R:=Int) s.length)-1)))=w:=by
   rw [wr];exact hw
  have c3:decide (w.length≤1000000)=true:=by
   apply decide_eq_true;rw [←hw];unfold inner;rw [List.length_drop,List.length_take];omega
  rw [hw] at hv;cases hb:eH w with
  | none=>
    rw [hb] at hv;exact WK.fin ok 1000 0 [(17,aj false),(21,aj true),(24,aj true),(29,aj true),(37,dH w),(39,dH []),(40,aj false)] [(List.length s).ble 1000000000,decide (0≤IntKind.i64.wrap (((List.length s:Nat):Int)-1)∧IntKind.i64.wrap (((List.length s:Nat):Int)-1)≤((List.length s:Nat):Int)),decide ((0:Int)≤2∧(2:Int)≤((IntKind.i64.wrap (((List.length s:Nat):Int)-1)).toNat:Int)),decide (List.length w≤1000000)] [(aj (s==[(78:UInt8),(85:UInt8),(76:UInt8),(76:UInt8)]),aj false),(aj (Go.Lib.hasPrefix s [(120:UInt8),(39:UInt8)]),aj true),(aj (Go.Lib.hasSuffix s [(39:UInt8)]),aj true),(aj (decide (2 < ((List.length s:Nat):Int))),aj true),(dH (bM s (Option.some (2)) (Option.some (IntKind.i64.wrap (((List.length s:Nat):Int)-1)))),dH w),(dH ((Go.aQ.eH w).getD []),dH []),(aj (Go.aQ.eH w).isSome,aj false)] rfl (by kernel_rfl:au (bq Jb) true _ 1000 0 _ _ (dz 62 [.d (.str s)] [])=some (RV.aZ [RV.d (DV.agg [aU (0),aI (0),DV.str []]),aA (6)],[],_,_)) (by refine ⟨?_,?_,?_,?_,trivial⟩<;>(first | rfl | exact b1 | exact c1 | exact c2 | exact c3)) (by refine ⟨?_,?_,?_,?_,?_,?_,?_,trivial⟩<;>(first | exact ah e0 | exact ah x1 | exact ah x2 | exact ah (decide_eq_true (by omega)) | exact .of_eq (by rw [e1]) | exact .of_eq (by rw [hb];rfl))) ⟨by rw [hv];rfl,rfl⟩
  | some b=>
    rw [hb] at hv;by_cases hl:b.length≤1000
    ·have hq:vP 6 3 s=(3,0,b,0):=by rw [hv];simp only [Bc];rw [if_pos hl]
     have e9:(if b.length≤1000 then (0:Int) else 3)=0:=if_pos hl;exact WK.fin ok 1000 0 [(17,aj false),(21,aj true),(24,aj true),(29,aj true),(37,dH w),(39,dH b),(40,aj true),(56,aA (0))] [(List.length s).ble 1000000000,decide (0≤IntKind.i64.wrap (((List.length s:Nat):Int)-1)∧IntKind.i64.wrap (((List.length s:Nat):Int)-1)≤((List.length s:Nat):Int)),decide ((0:Int)≤2∧(2:Int)≤((IntKind.i64.wrap (((List.length s:Nat):Int)-1)).toNat:Int)),decide (List.length w≤1000000)] [(aj (s==[(78:UInt8),(85:UInt8),(76:UInt8),(76:UInt8)]),aj false),(aj (Go.Lib.hasPrefix s [(120:UInt8),(39:UInt8)]),aj true),(aj (Go.Lib.hasSuffix s [(39:UInt8)]),aj true),(aj (decide (2 < ((List.length s:Nat):Int))),aj true),(dH (bM s (Option.some (2)) (Option.some (IntKind.i64.wrap (((List.length s:Nat):Int)-1)))),dH w),(dH ((Go.aQ.eH w).getD []),dH b),(aj (Go.aQ.eH w).isSome,aj true),(aA (if List.length b≤1000 then (0:Int) else 3),aA (0))] rfl (by kernel_rfl:au (bq Jb) true _ 1000 0 _ _ (dz 62 [.d (.str s)] [])=some (RV.aZ [RV.d (DV.agg [aU (3),aI (0),DV.str b]),aA (0)],[],_,_)) (by refine ⟨?_,?_,?_,?_,trivial⟩<;>(first | rfl | exact b1 | exact c1 | exact c2 | exact c3)) (by refine ⟨?_,?_,?_,?_,?_,?_,?_,?_,trivial⟩<;>(first | exact ah e0 | exact ah x1 | exact ah x2 | exact ah (decide_eq_true (by omega)) | exact .of_eq (by rw [e1]) | exact .of_eq (by rw [hb];rfl) | exact .of_eq (by rw [e9]))) ⟨by rw [hq];rfl,rfl⟩
    ·have hq:vP 6 3 s=(0,0,[],3):=by rw [hv];simp only [Bc];rw [if_neg hl]
     have e9:(if b.length≤1000 then (0:Int) else 3)=3:=if_neg hl;exact WK.fin ok 1000 0 [(17,aj false),(21,aj true),(24,aj true),(29,aj true),(37,dH w),(39,dH b),(40,aj true),(56,aA (3))] [(List.length s).ble 1000000000,decide (0≤IntKind.i64.wrap (((List.length s:Nat):Int)-1)∧IntKind.i64.wrap (((List.length s:Nat):Int)-1)≤((List.length s:Nat):Int)),decide ((0:Int)≤2∧(2:Int)≤((IntKind.i64.wrap (((List.length s:Nat):Int)-1)).toNat:Int)),decide (List.length w≤1000000)] [(aj (s==[(78:UInt8),(85:UInt8),(76:UInt8),(76:UInt8)]),aj false),(aj (Go.Lib.hasPrefix s [(120:UInt8),(39:UInt8)]),aj true),(aj (Go.Lib.hasSuffix s [(39:UInt8)]),aj true),(aj (decide (2 < ((List.length s:Nat):Int))),aj true),(dH (bM s (Option.some (2)) (Option.some (IntKind.i64.wrap (((List.length s:Nat):Int)-1)))),dH w),(dH ((Go.aQ.eH w).getD []),dH b),(aj (Go.aQ.eH w).isSome,aj true),(aA (if List.length b≤1000 then (0:Int) else 3),aA (3))] rfl (by kernel_rfl:au (bq Jb) true _ 1000 0 _ _ (dz 62 [.d (.str s)] [])=some (RV.aZ [RV.d (DV.agg [aU (0),aI (0),DV.str []]),aA (3)],[],_,_)) (by refine ⟨?_,?_,?_,?_,trivial⟩<;>(first | rfl | exact b1 | exact c1 | exact c2 | exact c3)) (by refine ⟨?_,?_,?_,?_,?_,?_,?_,?_,trivial⟩<;>(first | exact ah e0 | exact ah x1 | exact ah x2 | exact ah (decide_eq_true (by omega)) | exact .of_eq (by rw [e1]) | exact .of_eq (by rw [hb];rfl) | exact .of_eq (by rw [e9]))) ⟨by rw [hq];rfl,rfl⟩
 cases hp:Lib.hasPrefix s [39] with
 | true=>
   have x1:=Jc hp;have hv:=aad h0 hp;cases hb:y5 s with
   | none=>
     rw [hb] at hv;exact WK.fin ok 1000 0 [(17,aj false),(21,aj false),(44,aj true),(49,dH []),(50,aj false)] [decide (List.length s≤1000000)] [(aj (s==[(78:UInt8),(85:UInt8),(76:UInt8),(76:UInt8)]),aj false),(aj (Go.Lib.hasPrefix s [(120:UInt8),(39:UInt8)]),aj false),(aj (Go.Lib.hasPrefix s [(39:UInt8)]),aj true),(dH ((Go.aQ.y5 s).getD []),dH []),(aj (Go.aQ.y5 s).isSome,aj false)] rfl (by kernel_rfl:au (bq Jb) true _ 1000 0 _ _ (dz 62 [.d (.str s)] [])=some (RV.aZ [RV.d (DV.agg [aU (0),aI (0),DV.str []]),aA (6)],[],_,_)) ⟨(by first | rfl | exact b2),trivial⟩ (by refine ⟨?_,?_,?_,?_,?_,trivial⟩<;>(first | exact ah e0 | exact ah x1 | exact ah hp | exact .of_eq (by rw [hb];rfl))) ⟨by rw [hv];rfl,rfl⟩
   | some b=>
     rw [hb] at hv;by_cases hl:b.length≤1000
     ·have hq:vP 6 3 s=(2,0,b,0):=by rw [hv];simp only [Bc];rw [if_pos hl]
      have e9:(if b.length≤1000 then (0:Int) else 3)=0:=if_pos hl;exact WK.fin ok 1000 0 [(17,aj false),(21,aj false),(44,aj true),(49,dH b),(50,aj true),(56,aA (0))] [decide (List.length s≤1000000)] [(aj (s==[(78:UInt8),(85:UInt8),(76:UInt8),(76:UInt8)]),aj false),(aj (Go.Lib.hasPrefix s [(120:UInt8),(39:UInt8)]),aj false),(aj (Go.Lib.hasPrefix s [(39:UInt8)]),aj true),(dH ((Go.aQ.y5 s).getD []),dH b),(aj (Go.aQ.y5 s).isSome,aj true),(aA (if List.length b≤1000 then (0:Int) else 3),aA (0))] rfl (by kernel_rfl:au (bq Jb) true _ 1000 0 _ _ (dz 62 [.d (.str s)] [])=some (RV.aZ [RV.d (DV.agg [aU (2),aI (0),DV.str b]),aA (0)],[],_,_)) ⟨(by first | rfl | exact b2),trivial⟩ (by refine ⟨?_,?_,?_,?_,?_,?_,trivial⟩<;>(first | exact ah e0 | exact ah x1 | exact ah hp | exact .of_eq (by rw [hb];rfl) | exact .of_eq (by rw [e9]))) ⟨by rw [hq];rfl,rfl⟩
     ·have hq:vP 6 3 s=(0,0,[],3):=by rw [hv];simp only [Bc];rw [if_neg hl]
      have e9:(if b.length≤1000 then (0:Int) else 3)=3:=if_neg hl;exact WK.fin ok 1000 0 [(17,aj false),(21,aj false),(44,aj true),(49,dH b),(50,aj true),(56,aA (3))] [decide (List.length s≤1000000)] [(aj (s==[(78:UInt8),(85:UInt8),(76:UInt8),(76:UInt8)]),aj false),(aj (Go.Lib.hasPrefix s [(120:UInt8),(39:UInt8)]),aj false),(aj (Go.Lib.hasPrefix s [(39:UInt8)]),aj true),(dH ((Go.aQ.y5 s).getD []),dH b),(aj (Go.aQ.y5 s).isSome,aj true),(aA (if List.length b≤1000 then (0:Int) else 3),aA (3))] rfl (by kernel_rfl:au (bq Jb) true _ 1000 0 _ _ (dz 62 [.d (.str s)] [])=some (RV.aZ [RV.d (DV.agg [aU (0),aI (0),DV.str []]),aA (3)],[],_,_)) ⟨(by first | rfl | exact b2),trivial⟩ (by refine ⟨?_,?_,?_,?_,?_,?_,trivial⟩<;>(first | exact ah e0 | exact ah x1 | exact ah hp | exact .of_eq (by rw [hb];rfl) | exact .of_eq (by rw [e9]))) ⟨by rw [hq];rfl,rfl⟩
 | false=>
   have hv:=aae h0 hx hp;obtain ⟨n,hn⟩:∃n,Fa s=n:=⟨_,rfl⟩;cases hi:aQ.intOf s with
   | some m=>
     rw [hi] at hv;have hm:=MO hi;rw [hn] at hm;subst hm;cases x1:Lib.hasPrefix s [120,39] with
     | false=>
       exact WK.fin ok 1000 0 [(17,aj false),(21,aj false),(44,aj false),(12,aA n),(13,aj true)] [decide (List.length s≤1000000)] [(aj (s==[(78:UInt8),(85:UInt8),(76:UInt8),(76:UInt8)]),aj false),(aj (Go.Lib.hasPrefix s [(120:UInt8),(39:UInt8)]),aj false),(aj (Go.Lib.hasPrefix s [(39:UInt8)]),aj false),(aA (Go.Proofs.YtjoefbioobdinaaGreatDoor.Fa s),aA n),(aj (Go.aQ.intOf s).isSome,aj true)] rfl (by kernel_rfl:au (bq Jb) true _ 1000 0 _ _ (dz 62 [.d (.str s)] [])=some (RV.aZ [RV.d (DV.agg [aU (1),aI n,DV.str []]),aA (0)],[],_,_)) ⟨(by first | rfl | exact b1 | exact b2),trivial⟩ (by refine ⟨?_,?_,?_,?_,?_,trivial⟩<;>(first | exact ah e0 | exact ah x1 | exact ah hp | exact .of_eq (by rw [hn]) | exact .of_eq (by rw [hi];rfl))) ⟨by rw [hv];rfl,rfl⟩
     | true=>
       cases x2:Lib.hasSuffix s [39] with
       | false=>
         exact WK.fin ok 1000 0 [(17,aj false),(21,aj true),(24,aj false),(44,aj false),(12,aA n),(13,aj true)] [(List.length s).ble 1000000000,decide (List.length s≤1000000)] [(aj (s==[(78:UInt8),(85:UInt8),(76:UInt8),(76:UInt8)]),aj false),(aj (Go.Lib.hasPrefix s [(120:UInt8),(39:UInt8)]),aj true),(aj (Go.Lib.hasSuffix s [(39:UInt8)]),aj false),(aj (Go.Lib.hasPrefix s [(39:UInt8)]),aj false),(aA (Go.Proofs.YtjoefbioobdinaaGreatDoor.Fa s),aA n),(aj (Go.aQ.intOf s).isSome,aj true)] rfl (by kernel_rfl:au (bq Jb) true _ 1000 0 _ _ (dz 62 [.d (.str s)] [])=some (RV.aZ [RV.d (DV.agg [aU (1),aI n,DV.str []]),aA (0)],[],_,_)) (by refine ⟨?_,?_,trivial⟩<;>(first | rfl | exact b1 | exact b2)) (by refine ⟨?_,?_,?_,?_,?_,?_,trivial⟩<;>(first | exact ah e0 | exact ah x1 | exact ah x2 | exact ah hp | exact .of_eq (by rw [hn]) | exact .of_eq (by rw [hi];rfl))) ⟨by rw [hv];rfl,rfl⟩
       | true=>
         have x3:¬2 < s.length:=fun h=>hx ⟨x1,x2,h⟩;exact WK.fin ok 1000 0 [(17,aj false),(21,aj true),(24,aj true),(29,aj false),(44,aj false),(12,aA n),(13,aj true)] [(List.length s).ble 1000000000,decide (List.length s≤1000000)] [(aj (s==[(78:UInt8),(85:UInt8),(76:UInt8),(76:UInt8)]),aj false),(aj (Go.Lib.hasPrefix s [(120:UInt8),(39:UInt8)]),aj true),(aj (Go.Lib.hasSuffix s [(39:UInt8)]),aj true),(aj (decide (2 < ((List.length s:Nat):Int))),aj false),(aj (Go.Lib.hasPrefix s [(39:UInt8)]),aj false),(aA (Go.Proofs.YtjoefbioobdinaaGreatDoor.Fa s),aA n),(aj (Go.aQ.intOf s).isSome,aj true)] rfl (by kernel_rfl:au (bq Jb) true _ 1000 0 _ _ (dz 62 [.d (.str s)] [])=some (RV.aZ [RV.d (DV.agg [aU (1),aI n,DV.str []]),aA (0)],[],_,_)) (by refine ⟨?_,?_,trivial⟩<;>(first | rfl | exact b1 | exact b2)) (by refine ⟨?_,?_,?_,?_,?_,?_,?_,trivial⟩<;>(first | exact ah e0 | exact ah x1 | exact ah x2 | exact ah hp | exact ah (decide_eq_false (by omega)) | exact .of_eq (by rw [hn]) | exact .of_eq (by rw [hi];rfl))) ⟨by rw [hv];rfl,rfl⟩
   | none=>
     rw [hi] at hv;cases x1:Lib.hasPrefix s [120,39] with
     | false=>
       exact WK.fin ok 1000 0 [(17,aj false),(21,aj false),(44,aj false),(12,aA n),(13,aj false)] [decide (List.length s≤1000000)] [(aj (s==[(78:UInt8),(85:UInt8),(76:UInt8),(76:UInt8)]),aj false),(aj (Go.Lib.hasPrefix s [(120:UInt8),(39:UInt8)]),aj false),(aj (Go.Lib.hasPrefix s [(39:UInt8)]),aj false),(aA (Go.Proofs.YtjoefbioobdinaaGreatDoor.Fa s),aA n),(aj (Go.aQ.intOf s).isSome,aj false)] rfl (by kernel_rfl:au (bq Jb) true _ 1000 0 _ _ (dz 62 [.d (.str s)] [])=some (RV.aZ [RV.d (DV.agg [aU (0),aI (0),DV.str []]),aA (6)],[],_,_)) ⟨(by first | rfl | exact b1 | exact b2),trivial⟩ (by refine ⟨?_,?_,?_,?_,?_,trivial⟩<;>(first | exact ah e0 | exact ah x1 | exact ah hp | exact .of_eq (by rw [hn]) | exact .of_eq (by rw [hi];rfl))) ⟨by rw [hv];rfl,rfl⟩
     | true=>
       cases x2:Lib.hasSuffix s [39] with
       | false=>
         exact WK.fin ok 1000 0 [(17,aj false),(21,aj true),(24,aj false),(44,aj false),(12,aA n),(13,aj false)] [(List.length s).ble 1000000000,decide (List.length s≤1000000)] [(aj (s==[(78:UInt8),(85:UInt8),(76:UInt8),(76:UInt8)]),aj false),(aj (Go.Lib.hasPrefix s [(120:UInt8),(39:UInt8)]),aj true),(aj (Go.Lib.hasSuffix s [(39:UInt8)]),aj false),(aj (Go.Lib.hasPrefix s [(39:UInt8)]),aj false),(aA (Go.Proofs.YtjoefbioobdinaaGreatDoor.Fa s),aA n),(aj (Go.aQ.intOf s).isSome,aj false)] rfl (by kernel_rfl:au (bq Jb) true _ 1000 0 _ _ (dz 62 [.d (.str s)] [])=some (RV.aZ [RV.d (DV.agg [aU (0),aI (0),DV.str []]),aA (6)],[],_,_)) (by refine ⟨?_,?_,trivial⟩<;>(first | rfl | exact b1 | exact b2)) (by refine ⟨?_,?_,?_,?_,?_,?_,trivial⟩<;>(first | exact ah e0 | exact ah x1 | exact ah x2 | exact ah hp | exact .of_eq (by rw [hn]) | exact .of_eq (by rw [hi];rfl))) ⟨by rw [hv];rfl,rfl⟩
       | true=>
         have x3:¬2 < s.length:=fun h=>hx ⟨x1,x2,h⟩;exact WK.fin ok 1000 0 [(17,aj false),(21,aj true),(24,aj true),(29,aj false),(44,aj false),(12,aA n),(13,aj false)] [(List.length s).ble 1000000000,decide (List.length s≤1000000)] [(aj (s==[(78:UInt8),(85:UInt8),(76:UInt8),(76:UInt8)]),aj false),(aj (Go.Lib.hasPrefix s [(120:UInt8),(39:UInt8)]),aj true),(aj (Go.Lib.hasSuffix s [(39:UInt8)]),aj true),(aj (decide (2 < ((List.length s:Nat):Int))),aj false),(aj (Go.Lib.hasPrefix s [(39:UInt8)]),aj false),(aA (Go.Proofs.YtjoefbioobdinaaGreatDoor.Fa s),aA n),(aj (Go.aQ.intOf s).isSome,aj false)] rfl (by kernel_rfl:au (bq Jb) true _ 1000 0 _ _ (dz 62 [.d (.str s)] [])=some (RV.aZ [RV.d (DV.agg [aU (0),aI (0),DV.str []]),aA (6)],[],_,_)) (by refine ⟨?_,?_,trivial⟩<;>(first | rfl | exact b1 | exact b2)) (by refine ⟨?_,?_,?_,?_,?_,?_,?_,trivial⟩<;>(first | exact ah e0 | exact ah x1 | exact ah x2 | exact ah hp | exact ah (decide_eq_false (by omega)) | exact .of_eq (by rw [hn]) | exact .of_eq (by rw [hi];rfl))) ⟨by rw [hv];rfl,rfl⟩
def vrE:DV→Option (RV×List Bool)
 | .str s=>some (SY (vP 6 3 s),[decide (s.length≤1000000)])
 | _=>none
theorem Ta:bY Tryz.prog 37 (wK vrE):=by
 refine kR fun x y c hg hc=>?_;unfold vrE at hg;split at hg
 ·rename_i s;simp only [Option.some.injEq,Prod.mk.injEq] at hg;obtain ⟨rfl,rfl⟩:=hg;exact aaf s (of_decide_eq_true (hc _ (by simp:decide (s.length≤1000000)∈[decide (s.length≤1000000)])))
 ·cases hg
noncomputable def OH:List (Nat×kZ):=[(38,e2 ZV),(21,e2 Zm),(37,wK vrE)]
theorem Tc:eZ Tryz.prog OH:=.cons SB (.cons Ml (.cons Ta .nil))
theorem Xz {s:W} {n:Int} (h:aQ.intOf s=some n):uK s=n∧Mv s=0:=by
 unfold uK Mv gN;rw [h];exact ⟨rfl,rfl⟩
theorem Dp {s:W} (h:aQ.intOf s=none) (h2:aQ.trimmed s=[]∨(aQ.trimmed s).head? = some 48∨¬(aQ.trimmed s).all fK=true):uK s=0∧Mv s=6:=by
 have e:gN s = .none:=by unfold gN;rw [h];exact if_pos h2
 unfold uK Mv;rw [e];exact ⟨rfl,rfl⟩
theorem MP {s:W} (h:aQ.intOf s=none) (h2:¬(aQ.trimmed s=[]∨(aQ.trimmed s).head? = some 48∨¬(aQ.trimmed s).all fK=true)):uK s=0∧Mv s=5:=by
 have e:gN s = .range:=by unfold gN;rw [h];exact if_neg h2
 unfold uK Mv;rw [e];exact ⟨rfl,rfl⟩
theorem XA {a:UInt8} (h:a=48):((Nat.cast (R:=Int) a.toNat)==48)=true:=by subst h;rfl
theorem PY {a:UInt8} (h:a≠48):((Nat.cast (R:=Int) a.toNat)==48)=false:=by
 refine beq_false_of_ne fun e=>h (UInt8.toNat_inj.1 ?_)
 have:a.toNat=48:=by omega
 exact this
set_option maxHeartbeats 4000000 in
theorem aag (s:W) (hs:s.length≤1000000):Go.Am.C Tryz.prog 20 [.d (.str s)] [] (fun r o=>r = .aZ [.d (.int .i64 (uK s)),.d (.int .i64 (Mv s))]∧o=[]):=by
 have ok:=aH Tc;refine bn (fn:=Tryz.f20) (body:=ciC) true (by kernel_rfl) (by kernel_rfl) (by kernel_rfl) ?_;have b2:decide (s.length≤1000000)=true:=decide_eq_true hs;cases hi:aQ.intOf s with
 | some n=>
   have hv:vP 6 3 s=(1,n,[],0):=Xq (by decide) (by decide) hi;obtain ⟨q1,q2⟩:=Xz hi;obtain ⟨z,hz⟩:∃z:W,z=[]:=⟨_,rfl⟩;exact WK.fin ok 1000 0 [(10,RV.d (DV.agg [aU (1),aI n,DV.str z])),(11,aA (0)),(18,aj true)] [decide (List.length s≤1000000)] [(RV.d (DV.agg [aU (Go.aQ.vP (6) (3) s).1,aI (Go.aQ.vP (6) (3) s).snd.1,DV.str (Go.aQ.vP (6) (3) s).snd.snd.1]),RV.d (DV.agg [aU (1),aI n,DV.str z])),(aA (Go.aQ.vP (6) (3) s).snd.snd.2,aA (0)),(aj (match 0==0 with | true=>1==1 | false=>false),aj true)] rfl (by kernel_rfl:au (bq OH) true _ 1000 0 _ _ (dz 35 [.d (.str s)] [])=some (RV.aZ [aA n,aA (0)],[],_,_)) ⟨(by first | rfl | exact b2),trivial⟩ (by refine ⟨?_,?_,?_,trivial⟩<;>(first | exact ah rfl | exact .of_eq (by rw [hv,hz]) | exact .of_eq (by rw [hv]))) ⟨by rw [q1,q2],rfl⟩
 | none=>
   have hno:¬((vP 6 3 s).2.2.2=0∧(vP 6 3 s).1=1):=Xr (by decide) (by decide) hi;obtain ⟨v,hv⟩:∃v,vP 6 3 s=v:=⟨_,rfl⟩;rw [hv] at hno;obtain ⟨k,n,z,e⟩:=v;have hno:¬(e=0∧k=1):=hno;obtain ⟨t,ht⟩:∃t,aQ.trimmed s=t:=⟨_,rfl⟩;have hT:Lib.trimPrefix s [45]=t:=ht
   have hl:t.length≤1000000:=by
    rw [←ht];unfold aQ.trimmed Lib.trimPrefix;split
    ·rw [List.length_drop];omega
    ·exact hs
   cases t with
   | nil=>
     obtain ⟨q1,q2⟩:=Dp hi (.inl ht);rcases bo (e==0:Bool) with y8 | y8
     ·skip
      exact WK.fin ok 1000 0 [(10,RV.d (DV.agg [aU k,aI n,DV.str z])),(11,aA e),(18,aj false),(22,dH []),(24,aj true),(14,aj true)] [decide (List.length s≤1000000)] [(RV.d (DV.agg [aU (Go.aQ.vP (6) (3) s).1,aI (Go.aQ.vP (6) (3) s).snd.1,DV.str (Go.aQ.vP (6) (3) s).snd.snd.1]),RV.d (DV.agg [aU k,aI n,DV.str z])),(aA (Go.aQ.vP (6) (3) s).snd.snd.2,aA e),(aj (e==0),aj true),(aj (k==1),aj false),(dH (Go.Lib.trimPrefix s [(45:UInt8)]),dH []),(aj true,aj true)] rfl (by kernel_rfl:au (bq OH) true _ 1000 0 _ _ (dz 35 [.d (.str s)] [])=some (RV.aZ [aA (0),aA (6)],[],_,_)) ⟨(by first | rfl | exact b2),trivial⟩ (by refine ⟨?_,?_,ah y8,?_,?_,?_,trivial⟩<;>(first | exact ah rfl | exact .of_eq (by rw [hv]) | exact .of_eq (by rw [hT]) | exact ah (beq_false_of_ne (fun hh=>hno ⟨by simpa using y8,hh⟩)))) ⟨by rw [q1,q2],rfl⟩
     ·skip
      exact WK.fin ok 1000 0 [(10,RV.d (DV.agg [aU k,aI n,DV.str z])),(11,aA e),(18,aj false),(22,dH []),(24,aj true),(14,aj false)] [decide (List.length s≤1000000)] [(RV.d (DV.agg [aU (Go.aQ.vP (6) (3) s).1,aI (Go.aQ.vP (6) (3) s).snd.1,DV.str (Go.aQ.vP (6) (3) s).snd.snd.1]),RV.d (DV.agg [aU k,aI n,DV.str z])),(aA (Go.aQ.vP (6) (3) s).snd.snd.2,aA e),(aj (e==0),aj false),(aj false,aj false),(dH (Go.Lib.trimPrefix s [(45:UInt8)]),dH []),(aj true,aj true)] rfl (by kernel_rfl:au (bq OH) true _ 1000 0 _ _ (dz 35 [.d (.str s)] [])=some (RV.aZ [aA (0),aA (6)],[],_,_)) ⟨(by first | rfl | exact b2),trivial⟩ (by refine ⟨?_,?_,ah y8,?_,?_,?_,trivial⟩<;>(first | exact ah rfl | exact .of_eq (by rw [hv]) | exact .of_eq (by rw [hT]) | exact ah (beq_false_of_ne (fun hh=>hno ⟨by simpa using y8,hh⟩)))) ⟨by rw [q1,q2],rfl⟩
   | cons c w=>
     have c0:decide ((0:Int)≤0∧0 < (Nat.cast (R:=Int) (c::w).length))=true:=decide_eq_true (by simp only [List.length_cons];omega);have b3:Nat.ble (c::w).length 1000000000=true:=Nat.ble_eq_true_of_le (by omega);by_cases h48:c=48
     ·obtain ⟨q1,q2⟩:=Dp hi (.inr (.inl (by rw [ht,h48];rfl)));rcases bo (e==0:Bool) with y8 | y8
      ·skip
       exact WK.fin ok 1000 0 [(10,RV.d (DV.agg [aU k,aI n,DV.str z])),(11,aA e),(18,aj false),(22,dH (c::w)),(24,aj false),(27,bK (c.toNat:Int)),(28,aj true),(14,aj true)] [decide (List.length s≤1000000),decide ((0:Int)≤0∧(0:Int) < ((c::w).length:Int))] [(RV.d (DV.agg [aU (Go.aQ.vP (6) (3) s).1,aI (Go.aQ.vP (6) (3) s).snd.1,DV.str (Go.aQ.vP (6) (3) s).snd.snd.1]),RV.d (DV.agg [aU k,aI n,DV.str z])),(aA (Go.aQ.vP (6) (3) s).snd.snd.2,aA e),(aj (e==0),aj true),(aj (k==1),aj false),(dH (Go.Lib.trimPrefix s [(45:UInt8)]),dH (c::w)),(aj false,aj false),(bK (((c::w).getD 0 (0:UInt8)).toNat:Int),bK (c.toNat:Int)),(aj ((c.toNat:Int)==48),aj true)] rfl (by kernel_rfl:au (bq OH) true _ 1000 0 _ _ (dz 35 [.d (.str s)] [])=some (RV.aZ [aA (0),aA (6)],[],_,_)) (by refine ⟨?_,?_,trivial⟩<;>(first | rfl | exact c0 | exact b2)) (by refine ⟨?_,?_,ah y8,?_,?_,?_,?_,?_,trivial⟩<;>(first | exact ah rfl | exact .of_eq rfl | exact .of_eq (by rw [hv]) | exact .of_eq (by rw [hT]) | exact ah (XA h48) | exact ah (beq_false_of_ne (fun hh=>hno ⟨by simpa using y8,hh⟩)))) ⟨by rw [q1,q2],rfl⟩
      ·skip
       exact WK.fin ok 1000 0 [(10,RV.d (DV.agg [aU k,aI n,DV.str z])),(11,aA e),(18,aj false),(22,dH (c::w)),(24,aj false),(27,bK (c.toNat:Int)),(28,aj true),(14,aj false)] [decide (List.length s≤1000000),decide ((0:Int)≤0∧(0:Int) < ((c::w).length:Int))] [(RV.d (DV.agg [aU (Go.aQ.vP (6) (3) s).1,aI (Go.aQ.vP (6) (3) s).snd.1,DV.str (Go.aQ.vP (6) (3) s).snd.snd.1]),RV.d (DV.agg [aU k,aI n,DV.str z])),(aA (Go.aQ.vP (6) (3) s).snd.snd.2,aA e),(aj (e==0),aj false),(aj false,aj false),(dH (Go.Lib.trimPrefix s [(45:UInt8)]),dH (c::w)),(aj false,aj false),(bK (((c::w).getD 0 (0:UInt8)).toNat:Int),bK (c.toNat:Int)),(aj ((c.toNat:Int)==48),aj true)] rfl (by kernel_rfl:au (bq OH) true _ 1000 0 _ _ (dz 35 [.d (.str s)] [])=some (RV.aZ [aA (0),aA (6)],[],_,_)) (by refine ⟨?_,?_,trivial⟩<;>(first | rfl | exact c0 | exact b2)) (by refine ⟨?_,?_,ah y8,?_,?_,?_,?_,?_,trivial⟩<;>(first | exact ah rfl | exact .of_eq rfl | exact .of_eq (by rw [hv]) | exact .of_eq (by rw [hT]) | exact ah (XA h48) | exact ah (beq_false_of_ne (fun hh=>hno ⟨by simpa using y8,hh⟩)))) ⟨by rw [q1,q2],rfl⟩
     ·cases hd:(c::w).all fK with
      | false=>
        obtain ⟨q1,q2⟩:=Dp hi (.inr (.inr (by rw [ht,hd];simp)))
        have ht2:(!(Lib.trimS (c::w) ten==[]))=true:=by
         rw [Bool.not_eq_true',beq_false_of_ne];intro h;rw [EY.1 h] at hd;cases hd
        rcases bo (e==0:Bool) with y8 | y8
        ·skip
         exact WK.fin ok 1000 0 [(10,RV.d (DV.agg [aU k,aI n,DV.str z])),(11,aA e),(18,aj false),(22,dH (c::w)),(24,aj false),(27,bK (c.toNat:Int)),(28,aj false),(33,aj true),(14,aj true)] [decide (List.length s≤1000000),decide ((0:Int)≤0∧(0:Int) < ((c::w).length:Int)),(c::w).length.ble 1000000000,true,true] [(RV.d (DV.agg [aU (Go.aQ.vP (6) (3) s).1,aI (Go.aQ.vP (6) (3) s).snd.1,DV.str (Go.aQ.vP (6) (3) s).snd.snd.1]),RV.d (DV.agg [aU k,aI n,DV.str z])),(aA (Go.aQ.vP (6) (3) s).snd.snd.2,aA e),(aj (e==0),aj true),(aj (k==1),aj false),(dH (Go.Lib.trimPrefix s [(45:UInt8)]),dH (c::w)),(aj false,aj false),(bK (((c::w).getD 0 (0:UInt8)).toNat:Int),bK (c.toNat:Int)),(aj ((c.toNat:Int)==48),aj false),(aj !Go.Lib.trimS (c::w) [(48:UInt8),(49:UInt8),(50:UInt8),(51:UInt8),(52:UInt8),(53:UInt8),(54:UInt8),(55:UInt8),(56:UInt8),(57:UInt8)]==[],aj true)] rfl (by kernel_rfl:au (bq OH) true _ 1000 0 _ _ (dz 35 [.d (.str s)] [])=some (RV.aZ [aA (0),aA (6)],[],_,_)) (by refine ⟨?_,?_,?_,?_,?_,trivial⟩<;>(first | rfl | exact c0 | exact b2 | exact b3)) (by refine ⟨?_,?_,ah y8,?_,?_,?_,?_,?_,?_,trivial⟩<;>(first | exact ah rfl | exact .of_eq rfl | exact .of_eq (by rw [hv]) | exact .of_eq (by rw [hT]) | exact ah (PY h48) | exact ah ht2 | exact ah (beq_false_of_ne (fun hh=>hno ⟨by simpa using y8,hh⟩)))) ⟨by rw [q1,q2],rfl⟩
        ·skip
         exact WK.fin ok 1000 0 [(10,RV.d (DV.agg [aU k,aI n,DV.str z])),(11,aA e),(18,aj false),(22,dH (c::w)),(24,aj false),(27,bK (c.toNat:Int)),(28,aj false),(33,aj true),(14,aj false)] [decide (List.length s≤1000000),decide ((0:Int)≤0∧(0:Int) < ((c::w).length:Int)),(c::w).length.ble 1000000000,true,true] [(RV.d (DV.agg [aU (Go.aQ.vP (6) (3) s).1,aI (Go.aQ.vP (6) (3) s).snd.1,DV.str (Go.aQ.vP (6) (3) s).snd.snd.1]),RV.d (DV.agg [aU k,aI n,DV.str z])),(aA (Go.aQ.vP (6) (3) s).snd.snd.2,aA e),(aj (e==0),aj false),(aj false,aj false),(dH (Go.Lib.trimPrefix s [(45:UInt8)]),dH (c::w)),(aj false,aj false),(bK (((c::w).getD 0 (0:UInt8)).toNat:Int),bK (c.toNat:Int)),(aj ((c.toNat:Int)==48),aj false),(aj !Go.Lib.trimS (c::w) [(48:UInt8),(49:UInt8),(50:UInt8),(51:UInt8),(52:UInt8),(53:UInt8),(54:UInt8),(55:UInt8),(56:UInt8),(57:UInt8)]==[],aj true)] rfl (by kernel_rfl:au (bq OH) true _ 1000 0 _ _ (dz 35 [.d (.str s)] [])=some (RV.aZ [aA (0),aA (6)],[],_,_)) (by refine ⟨?_,?_,?_,?_,?_,trivial⟩<;>(first | rfl | exact c0 | exact b2 | exact b3)) (by refine ⟨?_,?_,ah y8,?_,?_,?_,?_,?_,?_,trivial⟩<;>(first | exact ah rfl | exact .of_eq rfl | exact .of_eq (by rw [hv]) | exact .of_eq (by rw [hT]) | exact ah (PY h48) | exact ah ht2 | exact ah (beq_false_of_ne (fun hh=>hno ⟨by simpa using y8,hh⟩)))) ⟨by rw [q1,q2],rfl⟩
      | true=>
        obtain ⟨q1,q2⟩:=MP hi (by rw [ht,hd];simp [h48])
        have ht2:(!(Lib.trimS (c::w) ten==[]))=false:=by
         rw [EY.2 hd];rfl
        rcases bo (e==0:Bool) with y8 | y8
        ·skip
         exact WK.fin ok 1000 0 [(10,RV.d (DV.agg [aU k,aI n,DV.str z])),(11,aA e),(18,aj false),(22,dH (c::w)),(24,aj false),(27,bK (c.toNat:Int)),(28,aj false),(33,aj false),(14,aj true)] [decide (List.length s≤1000000),decide ((0:Int)≤0∧(0:Int) < ((c::w).length:Int)),(c::w).length.ble 1000000000,true,true] [(RV.d (DV.agg [aU (Go.aQ.vP (6) (3) s).1,aI (Go.aQ.vP (6) (3) s).snd.1,DV.str (Go.aQ.vP (6) (3) s).snd.snd.1]),RV.d (DV.agg [aU k,aI n,DV.str z])),(aA (Go.aQ.vP (6) (3) s).snd.snd.2,aA e),(aj (e==0),aj true),(aj (k==1),aj false),(dH (Go.Lib.trimPrefix s [(45:UInt8)]),dH (c::w)),(aj false,aj false),(bK (((c::w).getD 0 (0:UInt8)).toNat:Int),bK (c.toNat:Int)),(aj ((c.toNat:Int)==48),aj false),(aj !Go.Lib.trimS (c::w) [(48:UInt8),(49:UInt8),(50:UInt8),(51:UInt8),(52:UInt8),(53:UInt8),(54:UInt8),(55:UInt8),(56:UInt8),(57:UInt8)]==[],aj false)] rfl (by kernel_rfl:au (bq OH) true _ 1000 0 _ _ (dz 35 [.d (.str s)] [])=some (RV.aZ [aA (0),aA (5)],[],_,_)) (by refine ⟨?_,?_,?_,?_,?_,trivial⟩<;>(first | rfl | exact c0 | exact b2 | exact b3)) (by refine ⟨?_,?_,ah y8,?_,?_,?_,?_,?_,?_,trivial⟩<;>(first | exact ah rfl | exact .of_eq rfl | exact .of_eq (by rw [hv]) | exact .of_eq (by rw [hT]) | exact ah (PY h48) | exact ah ht2 | exact ah (beq_false_of_ne (fun hh=>hno ⟨by simpa using y8,hh⟩)))) ⟨by rw [q1,q2],rfl⟩
        ·skip
         exact WK.fin ok 1000 0 [(10,RV.d (DV.agg [aU k,aI n,DV.str z])),(11,aA e),(18,aj false),(22,dH (c::w)),(24,aj false),(27,bK (c.toNat:Int)),(28,aj false),(33,aj false),(14,aj false)] [decide (List.length s≤1000000),decide ((0:Int)≤0∧(0:Int) < ((c::w).length:Int)),(c::w).length.ble 1000000000,true,true] [(RV.d (DV.agg [aU (Go.aQ.vP (6) (3) s).1,aI (Go.aQ.vP (6) (3) s).snd.1,DV.str (Go.aQ.vP (6) (3) s).snd.snd.1]),RV.d (DV.agg [aU k,aI n,DV.str z])),(aA (Go.aQ.vP (6) (3) s).snd.snd.2,aA e),(aj (e==0),aj false),(aj false,aj false),(dH (Go.Lib.trimPrefix s [(45:UInt8)]),dH (c::w)),(aj false,aj false),(bK (((c::w).getD 0 (0:UInt8)).toNat:Int),bK (c.toNat:Int)),(aj ((c.toNat:Int)==48),aj false),(aj !Go.Lib.trimS (c::w) [(48:UInt8),(49:UInt8),(50:UInt8),(51:UInt8),(52:UInt8),(53:UInt8),(54:UInt8),(55:UInt8),(56:UInt8),(57:UInt8)]==[],aj false)] rfl (by kernel_rfl:au (bq OH) true _ 1000 0 _ _ (dz 35 [.d (.str s)] [])=some (RV.aZ [aA (0),aA (5)],[],_,_)) (by refine ⟨?_,?_,?_,?_,?_,trivial⟩<;>(first | rfl | exact c0 | exact b2 | exact b3)) (by refine ⟨?_,?_,ah y8,?_,?_,?_,?_,?_,?_,trivial⟩<;>(first | exact ah rfl | exact .of_eq rfl | exact .of_eq (by rw [hv]) | exact .of_eq (by rw [hT]) | exact ah (PY h48) | exact ah ht2 | exact ah (beq_false_of_ne (fun hh=>hno ⟨by simpa using y8,hh⟩)))) ⟨by rw [q1,q2],rfl⟩
def ciE:DV→Option (RV×List Bool)
 | .str s=>some (.aZ [.d (.int .i64 (uK s)),.d (.int .i64 (Mv s))],[decide (s.length≤1000000)])
 | _=>none
theorem Td:bY Tryz.prog 20 (wK ciE):=by
 refine kR fun x y c hg hc=>?_;unfold ciE at hg;split at hg
 ·rename_i s;simp only [Option.some.injEq,Prod.mk.injEq] at hg;obtain ⟨rfl,rfl⟩:=hg;exact aag s (of_decide_eq_true (hc _ (by simp:decide (s.length≤1000000)∈[decide (s.length≤1000000)])))
 ·cases hg
abbrev eT:Nat:=26
def MQ:kZ:=fun a o=>match a,o with
 | [.d (.int .i64 w),.ptr 0 0],[.box E [.d (.int .i64 e)]]=>some (.aZ [],[.box E [.d (.int .i64 (kS e w))]],[Nat.beq E eT])
 | _,_=>none
theorem MR:bY Tryz.prog 17 MQ:=by
 intro a o r o' c hg hc;unfold MQ at hg;split at hg
 ·rename_i k E e;simp only [Option.some.injEq,Prod.mk.injEq] at hg;obtain ⟨rfl,rfl,rfl⟩:=hg;have hE:=bV (hc (Nat.beq E eT) (by simp));subst hE;have ok:=aH (l:=[]) .nil;refine bn (fn:=Tryz.f17) (body:=flC) true (by kernel_rfl) (by kernel_rfl) (by kernel_rfl) ?_;by_cases h6:e=6
  ·have hq:kS e k=e:=if_pos h6;have e6:(e != 6)=false:=by rw [h6];rfl
   exact WK.fin ok 1000 0 [(4,aj false)] [] [(aj (e != 6),aj false)] rfl (by kernel_rfl:au (bq []) true _ 1000 0 _ _ (dz 10 [.d (.int .i64 k),.ptr 0 0] [.box eT [.d (.int .i64 e)]])=some (RV.aZ [],[ay.box 26 [aA e]],_,_)) trivial ⟨(by exact ah e6),trivial⟩ ⟨rfl,by rw [hq]⟩
  ·have e6:(e != 6)=true:=bne_iff_ne.2 h6;by_cases h0:k=0
   ·have hq:kS e k=e:=by unfold kS;rw [if_neg h6,if_pos h0]
    have e0:(k != 0)=false:=by rw [h0];rfl
    exact WK.fin ok 1000 0 [(4,aj true),(7,aj false)] [] [(aj (e != 6),aj true),(aj (k != 0),aj false)] rfl (by kernel_rfl:au (bq []) true _ 1000 0 _ _ (dz 10 [.d (.int .i64 k),.ptr 0 0] [.box eT [.d (.int .i64 e)]])=some (RV.aZ [],[ay.box 26 [aA e]],_,_)) trivial (by refine ⟨?_,?_,trivial⟩<;>(first | exact ah e6 | exact ah e0)) ⟨rfl,by rw [hq]⟩
   ·have hq:kS e k=k:=by unfold kS;rw [if_neg h6,if_neg h0]
    have e0:(k != 0)=true:=bne_iff_ne.2 h0;exact WK.fin ok 1000 0 [(4,aj true),(7,aj true)] [] [(aj (e != 6),aj true),(aj (k != 0),aj true)] rfl (by kernel_rfl:au (bq []) true _ 1000 0 _ _ (dz 10 [.d (.int .i64 k),.ptr 0 0] [.box eT [.d (.int .i64 e)]])=some (RV.aZ [],[ay.box 26 [aA k]],_,_)) trivial (by refine ⟨?_,?_,trivial⟩<;>(first | exact ah e6 | exact ah e0)) ⟨rfl,by rw [hq]⟩
 ·cases hg
abbrev tT:Nat:=4
abbrev MS:Nat:=43
abbrev Rp:Nat:=44
abbrev aT:Nat:=25
def J7:DV→DV→Option (RV×List Bool)
 | .str s,.str [32]=>some (.aZ [.d (.str (aQ.cut s).1),.d (.str (aQ.cut s).2.1),.d (.bool (aQ.cut s).2.2)],[decide (s.length≤1000000)])
 | _,_=>none
def MU:kZ:=fun a o=>match a,o with
 | [.ptr 0 0,.ptr 1 0,.ptr 2 0],[.box A [.d (.bool m)],.box F [.gG (.func f) [] [.ptr 3 0]],.box B [.d (.str r)],.box E [.d (.int .i64 e)]]=>
   some (.d (.str (nT m r)),[.box A [.d (.bool (cK m r))],.box F [.gG (.func f) [] [.ptr 3 0]],.box B [.d (.str (dh m r))],.box E [.d (.int .i64 (uL m e))]],
    [Nat.beq A tT,Nat.beq F MS,Nat.beq f 17,Nat.beq B sT,Nat.beq E eT,decide (r.length≤1000000)])
 | _,_=>none
def GQ:kZ:=fun a o=>match a,o with
 | [.ptr 0 0,.ptr 1 0],[.box S [.gG (.func g) [] [.ptr 2 0,.ptr 1 0,.ptr 3 0]],.box F [.gG (.func f) [] [.ptr 4 0]],.box A [.d (.bool m)],.box B [.d (.str r)],.box E [.d (.int .i64 e)]]=>
   some (.d (.int .i64 (kN m r)),[.box S [.gG (.func g) [] [.ptr 2 0,.ptr 1 0,.ptr 3 0]],.box F [.gG (.func f) [] [.ptr 4 0]],.box A [.d (.bool (cK m r))],.box B [.d (.str (dh m r))],.box E [.d (.int .i64 (lX m r e))]],
    [Nat.beq A tT,Nat.beq F MS,Nat.beq f 17,Nat.beq g 18,Nat.beq S Rp,Nat.beq B sT,Nat.beq E eT,decide (r.length≤999999)])
 | _,_=>none
def fsN:Nat→List Int
 | 1=>[6]
 | 2=>[0]
 | 3=>[1]
 | 4=>[1]
 | 5=>[1]
 | 6=>[1,2,3]
 | 7=>[0,1,4]
 | 8=>[0,1]
 | 9=>[0,5]
 | 10=>[0]
 | 12=>[1]
 | 14=>[1]
 | _=>[]
def PZ (k:Nat):DV:=if fsN k=[] then .aF 0 [] true else .aF 1 ((fsN k).map fun f=>.int .i64 f) false
def Te (k:Int):W:=kw k.toNat
def MV:DV→Option (RV×List Bool)
 | .int .i64 k=>some (.aZ [.d (.str (Te k)),.d (PZ k.toNat)],[decide (1≤k∧k≤14)])
 | _=>none
noncomputable abbrev ixC:Code:=eG Tryz.f73
noncomputable abbrev scC:Code:=eG Tryz.f36
noncomputable abbrev cuC:Code:=eG Tryz.f15
noncomputable abbrev Jd:Code:=eG Tryz.f16
noncomputable abbrev tkC:Code:=eG Tryz.f18
noncomputable abbrev cnC:Code:=eG Tryz.f19
noncomputable def tc1:List (Nat×kZ):=[(130,e2 PE)]
theorem Tf:eZ Tryz.prog tc1:=.cons IZ .nil
def ixE:DV→DV→Option (DV×List Bool)
 | .str s,.str [32]=>some (.int .i64 (Lib.indexByte s 32),[])
 | _,_=>none
theorem aah (s:W):Go.Am.C Tryz.prog 73 [.d (.str s),.d (.str [32])] [] (fun r o=>r = .d (.int .i64 (Lib.indexByte s 32))∧o=[]):=by
 have ok:=aH Tf;refine bn (fn:=Tryz.f73) (body:=ixC) true (by kernel_rfl) (by kernel_rfl) (by kernel_rfl) ?_;by_cases h:s=[32]
 ·have e0:(([(32:UInt8)]:List UInt8)==s)=true:=by rw [h];rfl
  have hq:Lib.indexByte s 32=0:=by rw [h];rfl
  exact WK.fin ok 1000 0 [(18,aj false),(22,aj true)] [] [(aj false,aj false),(aj ([(32:UInt8)]==s),aj true)] rfl (by kernel_rfl:au (bq tc1) true _ 1000 0 _ _ (dz 143 [.d (.str s),.d (.str [32])] [])=some (aA (0),[],_,_)) trivial (by refine ⟨?_,?_,trivial⟩<;>(first | exact ah rfl | exact ah e0)) ⟨by rw [hq],rfl⟩
 ·have e0:(([(32:UInt8)]:List UInt8)==s)=false:=beq_false_of_ne (Ne.symm h);obtain ⟨k,hk⟩:∃k,Lib.indexByte s 32=k:=⟨_,rfl⟩;exact WK.fin ok 1000 0 [(18,aj false),(22,aj false),(26,aj true),(30,aA k)] [true] [(aj false,aj false),(aj ([(32:UInt8)]==s),aj false),(aj true,aj true),(aA (Go.Lib.indexByte s (32:UInt8)),aA k)] rfl (by kernel_rfl:au (bq tc1) true _ 1000 0 _ _ (dz 143 [.d (.str s),.d (.str [32])] [])=some (aA k,[],_,_)) ⟨(by rfl),trivial⟩ (by refine ⟨?_,?_,?_,?_,trivial⟩<;>(first | exact ah rfl | exact ah e0 | exact .of_eq (by rw [hk]))) ⟨by rw [hk],rfl⟩
theorem Tg:bY Tryz.prog 73 (e2 ixE):=by
 refine pJ fun x x2 y c hg hc=>?_;unfold ixE at hg;split at hg
 ·simp only [Option.some.injEq,Prod.mk.injEq] at hg;obtain ⟨rfl,rfl⟩:=hg;exact aah _
 ·cases hg
noncomputable def Ti:List (Nat×kZ):=[(73,e2 ixE)]
theorem P5:eZ Tryz.prog Ti:=.cons Tg .nil
def P6 (s:W):RV:=.aZ [.d (.str (aQ.cut s).1),.d (.str (aQ.cut s).2.1),.d (.bool (aQ.cut s).2.2)]
theorem XB (s:W) (hs:s.length≤1000000):Go.Am.C Tryz.prog 36 [.d (.str s),.d (.str [32])] [] (fun r o=>r=P6 s∧o=[]):=by
 have ok:=aH P5;refine bn (fn:=Tryz.f36) (body:=scC) true (by kernel_rfl) (by kernel_rfl) (by kernel_rfl) ?_;rcases Dm s with ⟨e1,e2⟩ | ⟨i,hi,e1,e2⟩
 ·obtain ⟨k,hk⟩:∃k:Int,k = -1:=⟨_,rfl⟩;exact WK.fin ok 1000 0 [(10,aA k),(12,aj false)] [] [(aA (Go.Lib.indexByte s (32:UInt8)),aA k),(aj (decide ((0:Int)≤k)),aj false)] rfl (by kernel_rfl:au (bq Ti) true _ 1000 0 _ _ (dz 23 [.d (.str s),.d (.str [32])] [])=some (RV.aZ [dH s,dH [],aj false],[],_,_)) trivial (by refine ⟨?_,?_,trivial⟩<;>(first | exact ah (decide_eq_false (by omega)) | exact .of_eq (by rw [e1,hk]))) ⟨by unfold P6;rw [e2],rfl⟩
 ·obtain ⟨t1,h1⟩:∃t1,s.take i=t1:=⟨_,rfl⟩;obtain ⟨t2,h2⟩:∃t2,s.drop (i+1)=t2:=⟨_,rfl⟩;have e3:bM s none (some (Nat.cast (R:=Int) i))=t1:=by rw [←h1];rfl
  have e4:bM s (some (Nat.cast (R:=Int) (i+1))) none=t2:=by rw [←h2];rfl
  have c1:decide ((0:Int)≤(Nat.cast (R:=Int) i)∧(Nat.cast (R:=Int) i)≤(Nat.cast (R:=Int) s.length))=true:=decide_eq_true (by omega);have c2:decide ((0:Int)≤(Nat.cast (R:=Int) (i+1))∧(Nat.cast (R:=Int) (i+1))≤(Nat.cast (R:=Int) s.length))=true:=decide_eq_true (by omega);have v1:=dB (i:=i) (by omega);exact WK.fin ok 1000 0 [(10,aA (i:Int)),(12,aj true),(15,dH t1),(20,aA ((i+1:Nat):Int)),(21,dH t2)] [decide (0≤(i:Int)∧(i:Int)≤((List.length s:Nat):Int)),decide (0≤((i+1:Nat):Int)∧((i+1:Nat):Int)≤((List.length s:Nat):Int))] [(aA (Go.Lib.indexByte s (32:UInt8)),aA (i:Int)),(aj true,aj true),(dH (bM s Option.none (Option.some (i:Int))),dH t1),(aA (IntKind.i64.wrap ((i:Int)+1)),aA ((i+1:Nat):Int)),(dH (bM s (Option.some ((i+1:Nat):Int)) Option.none),dH t2)] rfl (by kernel_rfl:au (bq Ti) true _ 1000 0 _ _ (dz 23 [.d (.str s),.d (.str [32])] [])=some (RV.aZ [dH t1,dH t2,aj true],[],_,_)) (by refine ⟨?_,?_,trivial⟩<;>(first | rfl | exact c1 | exact c2)) (by refine ⟨?_,?_,?_,?_,?_,trivial⟩<;>(first | exact ah rfl | exact .of_eq (by rw [e1]) | exact .of_eq (by rw [e3]) | exact .of_eq (by rw [e4]) | exact v1)) ⟨by unfold P6;rw [e2,h1,h2],rfl⟩
theorem P7:bY Tryz.prog 36 (WH J7):=by
 refine Ms fun x x2 y c hg hc=>?_;unfold J7 at hg;split at hg
 ·rename_i s;simp only [Option.some.injEq,Prod.mk.injEq] at hg;obtain ⟨rfl,rfl⟩:=hg;exact XB s (of_decide_eq_true (hc _ (by simp:decide (s.length≤1000000)∈[decide (s.length≤1000000)])))
 ·cases hg
noncomputable def tc2:List (Nat×kZ):=[(36,WH J7)]
theorem Tj:eZ Tryz.prog tc2:=.cons P7 .nil
theorem XC (s:W) (hs:s.length≤1000000):Go.Am.C Tryz.prog 15 [.d (.str s),.d (.str [32])] [] (fun r o=>r=P6 s∧o=[]):=by
 have ok:=aH Tj;refine bn (fn:=Tryz.f15) (body:=cuC) true (by kernel_rfl) (by kernel_rfl) (by kernel_rfl) ?_;have b1:decide (s.length≤1000000)=true:=decide_eq_true hs;exact WK.fin ok 1000 0 [] [decide (List.length s≤1000000)] [] rfl (by kernel_rfl:au (bq tc2) true _ 1000 0 _ _ (dz 13 [.d (.str s),.d (.str [32])] [])=some (RV.aZ [dH (Go.aQ.cut s).1,dH (Go.aQ.cut s).snd.1,aj (Go.aQ.cut s).snd.2],[],_,_)) ⟨(by first | rfl | exact b1),trivial⟩ trivial ⟨rfl,rfl⟩
theorem P8:bY Tryz.prog 15 (WH J7):=by
 refine Ms fun x x2 y c hg hc=>?_;unfold J7 at hg;split at hg
 ·rename_i s;simp only [Option.some.injEq,Prod.mk.injEq] at hg;obtain ⟨rfl,rfl⟩:=hg;exact XC s (of_decide_eq_true (hc _ (by simp:decide (s.length≤1000000)∈[decide (s.length≤1000000)])))
 ·cases hg
def gq (k:Nat):RV:=.aZ [.d (.str (kw k)),.d (PZ k)]
theorem XD:Go.Am.C Tryz.prog 16 [.d (.int .i64 (1:Nat))] [] (fun r o=>r=gq 1∧o=[]):=by
 have ok:=aH (l:=[]) .nil;refine bn (fn:=Tryz.f16) (body:=Jd) true (by kernel_rfl) (by kernel_rfl) (by kernel_rfl) ?_;exact WK.fin ok 1000 0 [] [] [] rfl (by kernel_rfl:au (bq []) true _ 1000 0 _ _ (dz 45 [.d (.int .i64 (1:Nat))] [])=some (gq 1,[],_,_)) trivial trivial ⟨rfl,rfl⟩
theorem word2:Go.Am.C Tryz.prog 16 [.d (.int .i64 (2:Nat))] [] (fun r o=>r=gq 2∧o=[]):=by
 have ok:=aH (l:=[]) .nil;refine bn (fn:=Tryz.f16) (body:=Jd) true (by kernel_rfl) (by kernel_rfl) (by kernel_rfl) ?_;exact WK.fin ok 1000 0 [] [] [] rfl (by kernel_rfl:au (bq []) true _ 1000 0 _ _ (dz 45 [.d (.int .i64 (2:Nat))] [])=some (gq 2,[],_,_)) trivial trivial ⟨rfl,rfl⟩
theorem XE:Go.Am.C Tryz.prog 16 [.d (.int .i64 (3:Nat))] [] (fun r o=>r=gq 3∧o=[]):=by
 have ok:=aH (l:=[]) .nil;refine bn (fn:=Tryz.f16) (body:=Jd) true (by kernel_rfl) (by kernel_rfl) (by kernel_rfl) ?_;exact WK.fin ok 1000 0 [] [] [] rfl (by kernel_rfl:au (bq []) true _ 1000 0 _ _ (dz 45 [.d (.int .i64 (3:Nat))] [])=some (gq 3,[],_,_)) trivial trivial ⟨rfl,rfl⟩
theorem XF:Go.Am.C Tryz.prog 16 [.d (.int .i64 (4:Nat))] [] (fun r o=>r=gq 4∧o=[]):=by
 have ok:=aH (l:=[]) .nil;refine bn (fn:=Tryz.f16) (body:=Jd) true (by kernel_rfl) (by kernel_rfl) (by kernel_rfl) ?_;exact WK.fin ok 1000 0 [] [] [] rfl (by kernel_rfl:au (bq []) true _ 1000 0 _ _ (dz 45 [.d (.int .i64 (4:Nat))] [])=some (gq 4,[],_,_)) trivial trivial ⟨rfl,rfl⟩
theorem XG:Go.Am.C Tryz.prog 16 [.d (.int .i64 (5:Nat))] [] (fun r o=>r=gq 5∧o=[]):=by
 have ok:=aH (l:=[]) .nil;refine bn (fn:=Tryz.f16) (body:=Jd) true (by kernel_rfl) (by kernel_rfl) (by kernel_rfl) ?_;exact WK.fin ok 1000 0 [] [] [] rfl (by kernel_rfl:au (bq []) true _ 1000 0 _ _ (dz 45 [.d (.int .i64 (5:Nat))] [])=some (gq 5,[],_,_)) trivial trivial ⟨rfl,rfl⟩
theorem XH:Go.Am.C Tryz.prog 16 [.d (.int .i64 (6:Nat))] [] (fun r o=>r=gq 6∧o=[]):=by
 have ok:=aH (l:=[]) .nil;refine bn (fn:=Tryz.f16) (body:=Jd) true (by kernel_rfl) (by kernel_rfl) (by kernel_rfl) ?_;exact WK.fin ok 1000 0 [] [] [] rfl (by kernel_rfl:au (bq []) true _ 1000 0 _ _ (dz 45 [.d (.int .i64 (6:Nat))] [])=some (gq 6,[],_,_)) trivial trivial ⟨rfl,rfl⟩
theorem XI:Go.Am.C Tryz.prog 16 [.d (.int .i64 (7:Nat))] [] (fun r o=>r=gq 7∧o=[]):=by
 have ok:=aH (l:=[]) .nil;refine bn (fn:=Tryz.f16) (body:=Jd) true (by kernel_rfl) (by kernel_rfl) (by kernel_rfl) ?_;exact WK.fin ok 1000 0 [] [] [] rfl (by kernel_rfl:au (bq []) true _ 1000 0 _ _ (dz 45 [.d (.int .i64 (7:Nat))] [])=some (gq 7,[],_,_)) trivial trivial ⟨rfl,rfl⟩
theorem XJ:Go.Am.C Tryz.prog 16 [.d (.int .i64 (8:Nat))] [] (fun r o=>r=gq 8∧o=[]):=by
 have ok:=aH (l:=[]) .nil;refine bn (fn:=Tryz.f16) (body:=Jd) true (by kernel_rfl) (by kernel_rfl) (by kernel_rfl) ?_;exact WK.fin ok 1000 0 [] [] [] rfl (by kernel_rfl:au (bq []) true _ 1000 0 _ _ (dz 45 [.d (.int .i64 (8:Nat))] [])=some (gq 8,[],_,_)) trivial trivial ⟨rfl,rfl⟩
theorem XK:Go.Am.C Tryz.prog 16 [.d (.int .i64 (9:Nat))] [] (fun r o=>r=gq 9∧o=[]):=by
 have ok:=aH (l:=[]) .nil;refine bn (fn:=Tryz.f16) (body:=Jd) true (by kernel_rfl) (by kernel_rfl) (by kernel_rfl) ?_;exact WK.fin ok 1000 0 [] [] [] rfl (by kernel_rfl:au (bq []) true _ 1000 0 _ _ (dz 45 [.d (.int .i64 (9:Nat))] [])=some (gq 9,[],_,_)) trivial trivial ⟨rfl,rfl⟩
theorem Tk:Go.Am.C Tryz.prog 16 [.d (.int .i64 (10:Nat))] [] (fun r o=>r=gq 10∧o=[]):=by
 have ok:=aH (l:=[]) .nil;refine bn (fn:=Tryz.f16) (body:=Jd) true (by kernel_rfl) (by kernel_rfl) (by kernel_rfl) ?_;exact WK.fin ok 1000 0 [] [] [] rfl (by kernel_rfl:au (bq []) true _ 1000 0 _ _ (dz 45 [.d (.int .i64 (10:Nat))] [])=some (gq 10,[],_,_)) trivial trivial ⟨rfl,rfl⟩
theorem Tm:Go.Am.C Tryz.prog 16 [.d (.int .i64 (11:Nat))] [] (fun r o=>r=gq 11∧o=[]):=by
 have ok:=aH (l:=[]) .nil;refine bn (fn:=Tryz.f16) (body:=Jd) true (by kernel_rfl) (by kernel_rfl) (by kernel_rfl) ?_;exact WK.fin ok 1000 0 [] [] [] rfl (by kernel_rfl:au (bq []) true _ 1000 0 _ _ (dz 45 [.d (.int .i64 (11:Nat))] [])=some (gq 11,[],_,_)) trivial trivial ⟨rfl,rfl⟩
theorem Tn:Go.Am.C Tryz.prog 16 [.d (.int .i64 (12:Nat))] [] (fun r o=>r=gq 12∧o=[]):=by
 have ok:=aH (l:=[]) .nil;refine bn (fn:=Tryz.f16) (body:=Jd) true (by kernel_rfl) (by kernel_rfl) (by kernel_rfl) ?_;exact WK.fin ok 1000 0 [] [] [] rfl (by kernel_rfl:au (bq []) true _ 1000 0 _ _ (dz 45 [.d (.int .i64 (12:Nat))] [])=some (gq 12,[],_,_)) trivial trivial ⟨rfl,rfl⟩
theorem Tp:Go.Am.C Tryz.prog 16 [.d (.int .i64 (13:Nat))] [] (fun r o=>r=gq 13∧o=[]):=by
 have ok:=aH (l:=[]) .nil;refine bn (fn:=Tryz.f16) (body:=Jd) true (by kernel_rfl) (by kernel_rfl) (by kernel_rfl) ?_;exact WK.fin ok 1000 0 [] [] [] rfl (by kernel_rfl:au (bq []) true _ 1000 0 _ _ (dz 45 [.d (.int .i64 (13:Nat))] [])=some (gq 13,[],_,_)) trivial trivial ⟨rfl,rfl⟩
theorem Tq:Go.Am.C Tryz.prog 16 [.d (.int .i64 (14:Nat))] [] (fun r o=>r=gq 14∧o=[]):=by
 have ok:=aH (l:=[]) .nil;refine bn (fn:=Tryz.f16) (body:=Jd) true (by kernel_rfl) (by kernel_rfl) (by kernel_rfl) ?_;exact WK.fin ok 1000 0 [] [] [] rfl (by kernel_rfl:au (bq []) true _ 1000 0 _ _ (dz 45 [.d (.int .i64 (14:Nat))] [])=some (gq 14,[],_,_)) trivial trivial ⟨rfl,rfl⟩
theorem Tt (k:Nat) (h:1≤k∧k≤14):Go.Am.C Tryz.prog 16 [.d (.int .i64 (k:Int))] [] (fun r o=>r=gq k∧o=[]):=by
 match k,h with
 | 1,_=>exact XD
 | 2,_=>exact word2
 | 3,_=>exact XE
 | 4,_=>exact XF
 | 5,_=>exact XG
 | 6,_=>exact XH
 | 7,_=>exact XI
 | 8,_=>exact XJ
 | 9,_=>exact XK
 | 10,_=>exact Tk
 | 11,_=>exact Tm
 | 12,_=>exact Tn
 | 13,_=>exact Tp
 | 14,_=>exact Tq
 | 0,h=>omega
 | k+15,h=>omega
theorem MW:bY Tryz.prog 16 (wK MV):=by
 refine kR fun x y c hg hc=>?_;unfold MV at hg;split at hg
 ·rename_i k;simp only [Option.some.injEq,Prod.mk.injEq] at hg;obtain ⟨rfl,rfl⟩:=hg;have h:=of_decide_eq_true (hc _ (by simp:decide (1≤k∧k≤14)∈[decide (1≤k∧k≤14)]));obtain ⟨n,rfl⟩:=Int.eq_ofNat_of_zero_le (show 0≤k by omega);exact Tt n (by omega)
 ·cases hg
noncomputable def tr1:List (Nat×kZ):=[(15,WH J7),(20,wK ciE),(17,MQ)]
theorem MX:eZ Tryz.prog tr1:=.cons P8 (.cons Td (.cons MR .nil))
noncomputable def tr2:List (Nat×kZ):=(18,MU)::tr1
def Zo (m:Bool) (r:W) (e:Int):List ay:=[.box tT [.d (.bool m)],.box MS [.gG (.func 17) [] [.ptr 3 0]],.box sT [.d (.str r)],.box eT [.d (.int .i64 e)]]
theorem Tv (m:Bool) (r:W) (e:Int) (hr:r.length≤1000000):Go.Am.C Tryz.prog 18 [.ptr 0 0,.ptr 1 0,.ptr 2 0] (Zo m r e) (fun q o=>q = .d (.str (nT m r))∧o=Zo (cK m r) (dh m r) (uL m e)):=by
 have ok:=aH MX;refine bn (fn:=Tryz.f18) (body:=tkC) true (by kernel_rfl) (by kernel_rfl) (by kernel_rfl) ?_;have b1:decide (r.length≤1000000)=true:=decide_eq_true hr;cases m with
 | true=>
   exact WK.fin ok 1000 0 [] [decide (List.length r≤1000000)] [] rfl (by kernel_rfl:au (bq tr1) true _ 1000 0 _ _ (dz 17 [.ptr 0 0,.ptr 1 0,.ptr 2 0] (Zo true r e))=some (dH (Go.aQ.cut r).1,[ay.box 4 [aj (Go.aQ.cut r).snd.2],ay.box 43 [RV.gG (Go.Fn.func 17) [] [RV.ptr 3 0]],ay.box 9 [dH (Go.aQ.cut r).snd.1],ay.box 26 [aA e]],_,_)) ⟨(by first | rfl | exact b1),trivial⟩ trivial ⟨rfl,rfl⟩
 | false=>
   exact WK.fin ok 1000 0 [] [true] [] rfl (by kernel_rfl:au (bq tr1) true _ 1000 0 _ _ (dz 17 [.ptr 0 0,.ptr 1 0,.ptr 2 0] (Zo false r e))=some (dH [(48:UInt8)],[ay.box 4 [aj false],ay.box 43 [RV.gG (Go.Fn.func 17) [] [RV.ptr 3 0]],ay.box 9 [dH r],ay.box 26 [aA (Go.aQ.kS e (6))]],_,_)) ⟨(by first | rfl | exact b1),trivial⟩ trivial ⟨rfl,rfl⟩
theorem MZ:bY Tryz.prog 18 MU:=by
 intro a o r o' c hg hc;unfold MU at hg;split at hg
 ·rename_i A m F f B r E e;simp only [Option.some.injEq,Prod.mk.injEq] at hg;obtain ⟨rfl,rfl,rfl⟩:=hg;have h1:=bV (hc (Nat.beq A tT) (by simp));have h2:=bV (hc (Nat.beq F MS) (by simp));have h3:=bV (hc (Nat.beq f 17) (by simp));have h4:=bV (hc (Nat.beq B sT) (by simp));have h5:=bV (hc (Nat.beq E eT) (by simp));have h6:=of_decide_eq_true (hc (decide (r.length≤1000000)) (by simp));subst h1;subst h2;subst h3;subst h4;subst h5;exact Tv m r e h6
 ·cases hg
theorem M0:eZ Tryz.prog tr2:=.cons MZ MX
def cnO (m:Bool) (r:W) (e:Int):List ay:=[.box Rp [.gG (.func 18) [] [.ptr 2 0,.ptr 1 0,.ptr 3 0]],.box MS [.gG (.func 17) [] [.ptr 4 0]],.box tT [.d (.bool m)],.box sT [.d (.str r)],.box eT [.d (.int .i64 e)]]
theorem P9 (m:Bool) (r:W) (e:Int) (hr:r.length≤1000000-1):Go.Am.C Tryz.prog 19 [.ptr 0 0,.ptr 1 0] (cnO m r e) (fun q o=>q = .d (.int .i64 (kN m r))∧o=cnO (cK m r) (dh m r) (lX m r e)):=by
 have ok:=aH M0;refine bn (fn:=Tryz.f19) (body:=cnC) true (by kernel_rfl) (by kernel_rfl) (by kernel_rfl) ?_;have b1:decide (r.length≤1000000)=true:=decide_eq_true (by omega);have b2:decide ((nT m r).length≤1000000)=true:=decide_eq_true (by have:=Dn m r;omega);exact WK.fin ok 1000 0 [] [true,true,true,true,true,decide (List.length r≤1000000),decide (List.length (Go.aQ.nT m r)≤1000000),true] [] rfl (by kernel_rfl:au (bq tr2) true _ 1000 0 _ _ (dz 15 [.ptr 0 0,.ptr 1 0] (cnO m r e))=some (aA (Go.aQ.uK (Go.aQ.nT m r)),[ay.box 44 [RV.gG (Go.Fn.func 18) [] [RV.ptr 2 0,RV.ptr 1 0,RV.ptr 3 0]],ay.box 43 [RV.gG (Go.Fn.func 17) [] [RV.ptr 4 0]],ay.box 4 [aj (Go.aQ.cK m r)],ay.box 9 [dH (Go.aQ.dh m r)],ay.box 26 [aA (Go.aQ.kS (Go.aQ.uL m e) (Go.aQ.Mv (Go.aQ.nT m r)))]],_,_)) (by refine ⟨?_,?_,?_,?_,?_,?_,?_,?_,trivial⟩<;>(first | rfl | exact b1 | exact b2)) trivial ⟨rfl,rfl⟩
theorem J8:bY Tryz.prog 19 GQ:=by
 intro a o r o' c hg hc;unfold GQ at hg;split at hg
 ·rename_i S g F f A m B r E e;simp only [Option.some.injEq,Prod.mk.injEq] at hg;obtain ⟨rfl,rfl,rfl⟩:=hg;have h1:=bV (hc (Nat.beq A tT) (by simp));have h2:=bV (hc (Nat.beq F MS) (by simp));have h3:=bV (hc (Nat.beq f 17) (by simp));have h7:=bV (hc (Nat.beq g 18) (by simp));have h8:=bV (hc (Nat.beq S Rp) (by simp));have h4:=bV (hc (Nat.beq B sT) (by simp));have h5:=bV (hc (Nat.beq E eT) (by simp));have h6:=of_decide_eq_true (hc (decide (r.length≤999999)) (by simp));subst h1;subst h2;subst h3;subst h4;subst h5;subst h7;subst h8;exact P9 m r e (by omega)
 ·cases hg
end Go.Proofs.YtjoefbioobdinaaGreatDoor
namespace Go.Am
open Go.RowKit
variable [Gl]
theorem aC.y9 {κ:bB} {φ:bJ} {w:World} {s:bQ} {a:Act} (F:aC κ φ w s a) {i j sl T ty sz sz' : Nat} {cs:List RV} (hO:s.O i=some (.box T cs)) (hj:cs[j]? = some (.d (.aF sz' [] true))) (hs:s.O sl=none) :
 aC κ (iE φ sl .nil) w { s with O:=bA (bA s.O sl (some (.arr ty sz []))) i (some (.box T (cs.set j (.own sl sz)))) } a∧Kp φ s.O (iE φ sl .nil) (bA (bA s.O sl (some (.arr ty sz []))) i (some (.box T (cs.set j (.own sl sz))))):=by
 have hne:i≠sl:=fun e=>by subst e;rw [hO] at hs;cases hs
 have hun:φ sl = .un:=by have:=F.objs sl;rw [hs] at this;exact this
 obtain ⟨q1,q2,_⟩:=F.wS (i:=sl) (p:=.arr ty sz []) (κ':=κ) (φ':=iE φ sl .nil) (w':=w) (Nat.le_refl _) (fun _ h=>h) (fun _ _ _ _ h=>h) (fun _ _ h=>h) (fun _ _ _ _=>rfl)
  (fun j hj=>mh _ _ hj) (fun h=>absurd hun h) (fun _ c _ fz hc=>⟨c,fz,hc,rfl⟩) (fun h=>absurd hun h) F.bnd.lt (fun M=>.inl ⟨aP _ _ _,rfl⟩)
 have QV:(bA s.O sl (some (.arr ty sz []))) i=some (.box T cs):=by rw [dM _ _ hne];exact hO
 have hM:dW κ (iE φ sl .nil) (bA s.O sl (some (.arr ty sz []))) w.heap κ (iE φ sl .nil) (bA (bA s.O sl (some (.arr ty sz []))) i (some (.box T (cs.set j (.own sl sz))))) w.heap:=
  ⟨fun _ hb=>⟨hb,rfl⟩,fun _ c _ fz hc=>⟨c,fz,hc,rfl⟩,fun _ _=>rfl,fun k n _ hn=>by
    by_cases e:k=i
    ·subst e;rw [bH] at hn;simp [ay.dn] at hn
    ·rw [dM _ _ e] at hn;exact hn⟩
 refine ⟨⟨fun x=>(q1.regs x).mono hM,fun k=>?_,q1.bnd,q1.n,q1.df.mono hM⟩,q2.kp.trans hM.kp⟩;dsimp only;by_cases e:k=i
 ·subst e;rw [bH];have ho:=q1.objs k;simp only at ho;rw [QV] at ho;obtain ⟨b,c,h1,h2,h3,h4,h5,h6⟩:=ho;refine ⟨b,c,h1,h2,h3,by simpa using h4,h5,fun n x v hx hv=>?_⟩;rw [List.getElem?_set] at hx;by_cases e:j=n
  ·subst e;have hr:=h6 j _ v hj hv
   have hx' : x = .own sl sz:=by
    split at hx
    ·split at hx
     ·simpa using hx.symm
     ·simp at hx
    ·exact absurd rfl (by assumption)
   subst hx';cases hr with
   | d hr=>
     cases hr with
     | iX hf=>have:=(hf rfl).1;subst this;exact .gJ (aP _ _ _)
     | aF _ _ hf hc _ _ _=>have:=(hf rfl).1;simp only [List.length_nil] at this;subst this;exact .gJ (aP _ _ _)
  ·rw [if_neg e] at hx;exact (h6 n x v hx hv).mono hM
 ·rw [dM _ _ e];exact (q1.objs k).mono hM (fun b hb=>⟨hb,rfl⟩) rfl
theorem WK.y9 {P:Program} {m:Nat} {k:List It} {s s' : bQ} {Q:bQ→Prop} {i j sl T ty sz sz' : Nat} {cs:List RV} (hO:s.O i=some (.box T cs)) (hj:cs[j]? = some (.d (.aF sz' [] true))) (hs:s.O sl=none)
 (he:s' = { s with O:=bA (bA s.O sl (some (.arr ty sz []))) i (some (.box T (cs.set j (.own sl sz)))) }) (hk:WK P m k s' Q):WK P m k s Q:=by
 subst he;intro κ φ w a F b fs;obtain ⟨F',K⟩:=F.y9 (ty:=ty) (sz:=sz) hO hj hs;obtain ⟨e,a',w',κ',φ',s',h1,h2,h3,h4,h5,h6⟩:=hk κ _ w a F' b fs;exact ⟨e,a',w',κ',φ',s',h1,h2,h3,h4,(K.m m).trans h5,h6⟩
end Go.Am
