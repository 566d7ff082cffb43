/-
  Texts that the claim leans on: AmBridge, AmKon, AmVt, AmVm, AmVe, AmVs, AmVc, AmVl, AmVf.
-/
import Derived.Test.YtjoefbioobdinaaGreatDoorkf
import Derived.Below
import Derived.Laws.AppendOwn
namespace Go.Am
set_option linter.unusedSectionVars false
open Go.RowKit
variable {P:Program} [Gl]
def DV.one:DV→Option Value
 | .bool b=>some (.bool b)
 | .int k n=>some (.int k n)
 | .str s=>some (.string ⟨s.toArray⟩)
 | .aD=>some (.pointer none)
 | .Av=>some .nilFunc
 | .wL=>some .nilIface
 | _=>none
def DV.ones:List DV→Option (List Value)
 | []=>some []
 | x::r=>match x.one,DV.ones r with
   | some v,some l=>some (v::l)
   | _,_=>none
def DV.flat:DV→Option Value
 | .agg cs=>match DV.ones cs with
   | some l=>some (.agg l.toArray)
   | none=>none
 | .bI cs=>match DV.ones cs with
   | some l=>some (.tuple l.toArray)
   | none=>none
 | x=>x.one
theorem DR.one {κ:bn} {h:Heap} {x:DV} {v u:Value} (r:DR κ h x v) (e:x.one=some u):v=u:=by
 cases r<;>simp_all [DV.one]
theorem DR.BJ {κ:bn} {h:Heap} {x:DV} {u:Value} (e:x.one=some u):DR κ h x u:=by
 cases x<;>simp [DV.one] at e<;>subst e<;>constructor
theorem DV.Kz {x:DV} {u:Value} (e:x.one=some u):x.gP=true:=by cases x<;>first | rfl | (simp [DV.one] at e)
theorem DV.pX:∀(cs:List DV) (us:List Value),DV.ones cs=some us→us.length=cs.length∧(∀x∈cs,∃u,x.one=some u)∧∀(i:Nat) (x:DV) (u:Value),cs[i]? = some x→us[i]? = some u→x.one=some u
 | [],us,h=>by simp [DV.ones] at h;subst h;simp
 | x::cs,us,h=>by
   simp only [DV.ones] at h;cases h1:x.one with
   | none=>rw [h1] at h;simp at h
   | some v=>
     cases h2:DV.ones cs with
     | none=>rw [h1,h2] at h;simp at h
     | some l=>
       rw [h1,h2] at h;simp at h;subst h;obtain ⟨g1,g2,g3⟩:=DV.pX cs l h2;refine ⟨by simp [g1],fun y hy=>?_,fun i y u hy hu=>?_⟩
       ·rcases List.mem_cons.1 hy with rfl | hy
        ·exact ⟨v,h1⟩
        ·exact g2 y hy
       ·cases i with
        | zero=>simp at hy hu;subst hy;subst hu;exact h1
        | succ i=>exact g3 i y u (by simpa using hy) (by simpa using hu)
theorem DR.flat {κ:bn} {h:Heap} {x:DV} {v u:Value} (r:DR κ h x v) (e:x.flat=some u):v=u:=by
 have key:∀{cs:List DV} {vs:Array Value} {l:List Value},DV.ones cs=some l→vs.size=cs.length→(∀(i:Nat) (x:DV) (v:Value),cs[i]? = some x→vs[i]? = some v→DR κ h x v)→vs=l.toArray:=by
  intro cs vs l h1 h2 h3;obtain ⟨g1,g2,g3⟩:=DV.pX cs l h1;apply Array.ext
  ·simp;omega
  ·intro i hi hi2;simp at hi2;have e1:cs[i]? = some cs[i]:=by simp [show i < cs.length by omega]
   have e2:vs[i]? = some vs[i]:=by simp [hi]
   have e3:l[i]? = some l[i]:=by simp [hi2]
   have:=(h3 i _ _ e1 e2).one (g3 i _ _ e1 e3)
   simpa using this
 cases x with
 | agg cs=>
   simp only [DV.flat] at e;cases h1:DV.ones cs with
   | none=>rw [h1] at e;simp at e
   | some l=>
     rw [h1] at e;simp at e;subst e;cases r with
     | agg hl hs hr=>rw [key h1 hl hr]
 | bI cs=>
   simp only [DV.flat] at e;cases h1:DV.ones cs with
   | none=>rw [h1] at e;simp at e
   | some l=>
     rw [h1] at e;simp at e;subst e;cases r with
     | bI hl hr=>rw [key h1 hl hr]
 | _=>exact r.one e
theorem DR.of_flat {κ:bn} {h:Heap} {x:DV} {u:Value} (e:x.flat=some u):DR κ h x u:=by
 cases x with
 | agg cs=>
   simp only [DV.flat] at e;cases h1:DV.ones cs with
   | none=>rw [h1] at e;simp at e
   | some l=>
     rw [h1] at e;simp at e;subst e;obtain ⟨g1,g2,g3⟩:=DV.pX cs l h1;exact .agg (by simpa using g1) (fun y hy=>by obtain ⟨u,hu⟩:=g2 y hy;exact DV.Kz hu) (fun i x v hx hv=>DR.BJ (g3 i x v hx (by simpa using hv)))
 | bI cs=>
   simp only [DV.flat] at e;cases h1:DV.ones cs with
   | none=>rw [h1] at e;simp at e
   | some l=>
     rw [h1] at e;simp at e;subst e;obtain ⟨g1,g2,g3⟩:=DV.pX cs l h1;exact .bI (by simpa using g1) (fun i x v hx hv=>DR.BJ (g3 i x v hx (by simpa using hv)))
 | _=>exact DR.BJ e
theorem KC (i:Nat):aN [] i=none:=by simp [aN]
theorem DI {f:FuncId} {args:List DV} {d:DV}
 (h:∀(κ:bn) (w:World) (vs:Array Value),Ay κ w→vs.size=args.length→(∀(i:Nat) (x:DV) (v:Value),args[i]? = some x→vs[i]? = some v→DR κ w.heap x v)→
   Calls P f vs w fun e w'=>∃v κ',e = .returned v∧DR κ' w'.heap d v∧(w.heap.size≤w'.heap.size∧w'.os=w.os∧w'.output=w.output)∧(∀b,b < w.heap.size→w'.heap[b]? = w.heap[b]?∧κ' b=κ b)∧(∀b,κ' b≠.kr→b < w'.heap.size)) :
 C P f (args.map .d) [] (fun r o=>r = .d d∧o=[]):=by
 intro κ φ w vs h1 h2 h3 h4;refine (h κ w vs h2 (by simpa using h3) (fun i x v hx hv=>?_)).mono ?_
 ·have:=h4 i (.d x) v (by simp [hx]) hv
  cases this with
  | d hr=>exact hr
 ·rintro e w' ⟨v,κ',rfl,hd,hs,hb,hn⟩
  have hfr:Fr κ w κ' w':=by
   refine ⟨hs.1,fun b hk=>?_,fun b hl hk=>?_,fun b c ty fz hc=>?_,hs.2.1,hs.2.2⟩
   ·have hl:=h2.lt b (by rw [hk];simp);exact ⟨(hb b hl).2.trans hk,(hb b hl).1⟩
   ·exact ⟨(hb b hl).2.trans hk,(hb b hl).1⟩
   ·have hl:b < w.heap.size:=by
     rcases Nat.lt_or_ge b w.heap.size with h' | h'
     ·exact h'
     ·rw [Array.getElem?_eq_none h'] at hc;simp at hc
    exact ⟨c,fz,(hb b hl).1.trans hc,rfl⟩
  refine ⟨v,.d d,[],κ',φ,rfl,⟨rfl,rfl⟩,.d hd,fun i=>?_,h2.step hfr hn,Nat.le_refl _,hfr,Kp.refl _ _⟩
  have:=h1 i
  rw [KC] at this ⊢;exact this
theorem BK {f:FuncId} {args:List DV} {us:List Value} {d:DV} {v:Value} (ha:dO DV.flat args=some us) (hd:d.flat=some v)
 (h:∀(κ:bn) (w:World),Ay κ w→Calls P f us.toArray w fun e w'=>e = .returned v∧Below w.heap.size w w'):C P f (args.map .d) [] (fun r o=>r = .d d∧o=[]):=by
 obtain ⟨g1,g2⟩:=dJ _ args us ha;refine DI fun κ w vs hk hl hr=>?_
 have:vs=us.toArray:=by
  apply Array.ext
  ·simp;omega
  ·intro i hi hi2;simp at hi2;have e1:args[i]? = some args[i]:=by simp [show i < args.length by omega]
   have e2:vs[i]? = some vs[i]:=by simp [hi]
   have e3:us[i]? = some us[i]:=by simp [hi2]
   simpa using (hr i _ _ e1 e2).flat (g2 i _ _ e1 e3)
 subst this;refine (h κ w hk).mono ?_
 rintro e w' ⟨rfl,hB⟩
 exact ⟨v,κ,rfl,DR.of_flat hd,⟨hB.size,hB.os,hB.output⟩,fun b hb=>⟨hB.block b hb,rfl⟩,fun b hb=>Nat.lt_of_lt_of_le (hk.lt b hb) hB.size⟩
theorem nE {f:FuncId} {args:List DV} {us:List Value} {d:DV} {v:Value} (ha:dO DV.flat args=some us) (hd:d.flat=some v)
 (h:∀w:World,Calls P f us.toArray w fun e w'=>e = .returned v∧Below w.heap.size w w'):C P f (args.map .d) [] (fun r o=>r = .d d∧o=[]):=
 BK ha hd fun _ w _=>h w
def lX (κ:bn) (v:Value):bn:=fun b=>if v.ownBlock=some b then .dA else κ b
theorem newRow {κ:bn} {w w' : World} {e:TypeId} {sz n:Nat} {v:Value} {xs:List Value} {els:List DV} (ho:w'.ownsRow w.heap.size e sz v n xs) (hn:n=els.length) (hz:wM sz els)
 (hx:∀(i:Nat) (x:DV) (j:Nat) (y:DV) (u:Value),els[i]? = some x→x.cells[j]? = some y→xs[i*sz+j]? = some u→y.one=some u)
 (hk:∀b,κ b≠.kr→b < w.heap.size) (hs:w.heap.size≤w'.heap.size) :
 DR (lX κ v) w'.heap (.aL sz els false) v∧(∀b,b < w.heap.size→lX κ v b=κ b)∧(∀b,lX κ v b≠.kr→b < w'.heap.size):=by
 obtain ⟨h1,h2⟩:=ho;rcases h2 with ⟨rfl,h0⟩ | ⟨g,cap,cur,rfl,hg,hc,h3,_,h4,h5⟩
 ·have:els=[]:=List.eq_nil_of_length_eq_zero (by omega)
  subst this;exact ⟨.iD (fun h=>by cases h),fun b _=>by simp [lX,Value.ownBlock],fun b hb=>by simp [lX,Value.ownBlock] at hb;exact Nat.lt_of_lt_of_le (hk b hb) hs⟩
 ·subst hn
  have hlt:g < w'.heap.size:=by
   rcases Nat.lt_or_ge g w'.heap.size with h' | h'
   ·exact h'
   ·rw [Array.getElem?_eq_none h'] at hc;simp at hc
  refine ⟨.aL (by simp [lX,Value.ownBlock]) hc (fun h=>by cases h) h3 (by omega) hz (fun i x j y u hi hj hu=>?_),fun b hb=>?_,fun b hb=>?_⟩
  ·have hil:=(List.getElem?_eq_some_iff.1 hi).1
   have hjl:j < sz:=by
    have:=(hz x (List.mem_of_getElem? hi)).1
    have:=(List.getElem?_eq_some_iff.1 hj).1
    omega
   have hlt:i*sz+j < els.length*sz:=by
    have:(i+1)*sz≤els.length*sz:=Nat.mul_le_mul_right _ hil
    rw [Nat.add_mul,Nat.one_mul] at this;omega
   refine DR.BJ (hx i x j y u hi hj ?_);rw [←h5,List.getElem?_take,if_pos hlt];simpa using hu
  ·simp only [lX,Value.ownBlock,Option.some.injEq];rw [if_neg (by omega)]
  ·simp only [lX,Value.ownBlock,Option.some.injEq] at hb;by_cases e:g=b
   ·subst e;exact hlt
   ·rw [if_neg e] at hb;exact Nat.lt_of_lt_of_le (hk b hb) hs
end Go.Am
namespace Go.Am
set_option linter.unusedSectionVars false
variable {P:Program} [Gl]
abbrev kg:=List RV→List au→Option (RV×List au×List Bool)
def zN:List (Nat×kg)→Nat→Option kg
 | [],_=>none
 | (i,g)::r,f=>bif Nat.beq i f then some g else zN r f
def DJ (l:List (Nat×kg)):tN:=fun f a o=>match zN l f with
 | some g=>g a o
 | none=>none
def bU (P:Program) (f:Nat) (g:kg):Prop:=∀a o r o' c,g a o=some (r,o',c)→(∀b∈c,b=true)→C P f a o (fun r2 o2=>r2=r∧o2=o')
theorem xM:∀(l:List (Nat×kg)) (f:Nat) (g:kg),zN l f=some g→(f,g)∈l
 | [],f,g,h=>by simp [zN] at h
 | (i,g')::r,f,g,h=>by
   simp only [zN] at h;cases hb:Nat.beq i f with
   | true=>rw [hb] at h;simp at h;subst h;have:=bQ hb;subst this;simp
   | false=>rw [hb] at h;simp at h;simp [xM r f g h]
inductive dQ (P:Program):List (Nat×kg)→Prop
 | nil:dQ P []
 | cons {f:Nat} {g:kg} {l:List (Nat×kg)} (h:bU P f g) (t:dQ P l):dQ P ((f,g)::l)
theorem dQ.mem {l:List (Nat×kg)} (h:dQ P l):∀f g,(f,g)∈l→bU P f g:=by
 induction h with
 | nil=>intro f g hm;simp at hm
 | cons h _ ih=>
   intro f g hm;rcases List.mem_cons.1 hm with e | hm
   ·injection e with e1 e2;subst e1;subst e2;exact h
   ·exact ih f g hm
theorem xO {l:List (Nat×kg)} (h:dQ P l):aW P (DJ l):=by
 intro f args objs r bJ c hk hc;unfold DJ at hk;cases hf:zN l f with
 | none=>rw [hf] at hk;simp at hk
 | some g=>rw [hf] at hk;exact h.mem f g (xM l f g hf) args objs r bJ c hk hc
def e0 (g:Option (DV×List Bool)):kg:=fun a o=>match a,o with
 | [],[]=>match g with
   | some (y,c)=>some (.d y,[],c)
   | none=>none
 | _,_=>none
def e1 (g:DV→Option (DV×List Bool)):kg:=fun a o=>match a,o with
 | [.d x],[]=>match g x with
   | some (y,c)=>some (.d y,[],c)
   | none=>none
 | _,_=>none
def e2 (g:DV→DV→Option (DV×List Bool)):kg:=fun a o=>match a,o with
 | [.d x,.d x2],[]=>match g x x2 with
   | some (y,c)=>some (.d y,[],c)
   | none=>none
 | _,_=>none
theorem V4 {f:Nat} {g:Option (DV×List Bool)} (h:∀y c,g=some (y,c)→(∀b∈c,b=true)→C P f [] [] (fun r o=>r = .d y∧o=[])):bU P f (e0 g):=by
 intro a o r o' c hg hc;unfold e0 at hg;split at hg
 ·cases hx:g with
  | none=>rw [hx] at hg;simp at hg
  | some p=>
    obtain ⟨y,c'⟩:=p;rw [hx] at hg;simp at hg;obtain ⟨rfl,rfl,rfl⟩:=hg;exact h y c' hx hc
 ·simp at hg
theorem xP {f:Nat} {g:DV→Option (DV×List Bool)} (h:∀x y c,g x=some (y,c)→(∀b∈c,b=true)→C P f [.d x] [] (fun r o=>r = .d y∧o=[])):bU P f (e1 g):=by
 intro a o r o' c hg hc;unfold e1 at hg;split at hg
 ·rename_i x;cases hx:g x with
  | none=>rw [hx] at hg;simp at hg
  | some p=>
    obtain ⟨y,c'⟩:=p;rw [hx] at hg;simp at hg;obtain ⟨rfl,rfl,rfl⟩:=hg;exact h x y c' hx hc
 ·simp at hg
theorem lH {f:Nat} {g:DV→DV→Option (DV×List Bool)} (h:∀x x2 y c,g x x2=some (y,c)→(∀b∈c,b=true)→C P f [.d x,.d x2] [] (fun r o=>r = .d y∧o=[])):bU P f (e2 g):=by
 intro a o r o' c hg hc;unfold e2 at hg;split at hg
 ·rename_i x x2;cases hx:g x x2 with
  | none=>rw [hx] at hg;simp at hg
  | some p=>
    obtain ⟨y,c'⟩:=p;rw [hx] at hg;simp at hg;obtain ⟨rfl,rfl,rfl⟩:=hg;exact h x x2 y c' hx hc
 ·simp at hg
def runK (P:Program) (cf:dK) (n l:Nat):tN:=fun f args objs=>
 match P.funcs[f]? with
 | some fn=>match fn.body with
   | some body=>bif Nat.ble args.length fn.ntmps&&Nat.ble args.length 60000&&Nat.ble objs.length 60 then
      match aA cf (!(cf.cK f)) fn.results.toList n l [] [.code body] (dY fn.ntmps args objs) with
      | some (r,o,c,es)=>match es with
        | []=>some (r,o,c)
        | _::_=>none
      | none=>none
     else none
   | none=>none
 | none=>none
def V5 (a b:tN):tN:=fun f args objs=>match a f args objs with
 | some x=>some x
 | none=>b f args objs
theorem KE {a b:tN} (ha:aW P a) (hb:aW P b):aW P (V5 a b):=by
 intro f args objs r bJ c hk hc;unfold V5 at hk;cases h:a f args objs with
 | some x=>rw [h] at hk;simp only [Option.some.injEq] at hk;subst hk;exact ha _ _ _ _ _ _ h hc
 | none=>rw [h] at hk;exact hb _ _ _ _ _ _ hk hc
theorem Ol {cf:dK} (hok:Ok P cf) (n l:Nat):aW P (runK P cf n l):=by
 intro f args objs r bJ c hk hc;unfold runK at hk;cases hf:P.funcs[f]? with
 | none=>rw [hf] at hk;simp at hk
 | some fn=>
   rw [hf] at hk;simp only at hk;cases hb:fn.body with
   | none=>rw [hb] at hk;simp at hk
   | some body=>
     rw [hb] at hk;simp only at hk;cases hg:(Nat.ble args.length fn.ntmps&&Nat.ble args.length 60000&&Nat.ble objs.length 60) with
     | false=>rw [hg] at hk;simp at hk
     | true=>
       rw [hg] at hk;simp only [cond_true] at hk;split at hk
       ·rename_i r1 o1 c1 es1 hr;split at hk
        ·simp only [Option.some.injEq,Prod.mk.injEq] at hk;obtain ⟨rfl,rfl,rfl⟩:=hk;refine aY (!(cf.cK f)) hf hb hg ?_;refine WK.fin hok n l [] c1 [] rfl hr ?_ trivial ⟨rfl,rfl⟩;clear hr;induction c1 with
         | nil=>trivial
         | cons x r ih=>exact ⟨hc x (by simp),ih (fun b hb=>hc b (by simp [hb]))⟩
        ·simp at hk
       ·simp at hk
def layer (P:Program) (base:tN) (cK dP:Nat→Bool) (n l:Nat):Nat→tN
 | 0=>base
 | d+1=>V5 base (runK P { E:=Env.of P,K:=layer P base cK dP n l d,cK:=cK,dP:=dP } n l)
end Go.Am
namespace Go.Am
variable {P:Program} [Gl]
theorem DK {base:tN} {cK Qm:Nat→Bool} {n l:Nat} (hm:P.follows .mixedOrders=true) (hb:aW P base) (hc:∀f,Qm f=true→dP P f=true):∀d,aW P (layer P base cK Qm n l d)
 | 0=>hb
 | d+1=>KE hb (Ol (cf:={ E:=Env.of P,K:=layer P base cK Qm n l d,cK:=cK,dP:=Qm }) ⟨⟨rfl,DK hm hb hc d,hc⟩,hm⟩ n l)
end Go.Am
namespace Go.Am
set_option linter.unusedSectionVars false
variable [Gl]
inductive Ra where
 | d0 | d1 | d2 | d3 | d4 | d5 | d6 | d7 | d8 | d9 | d10 | d11 | d12 | d13 | d14 | d15
 deriving DecidableEq
inductive dF (α:Type) where
 | mk (a0 a1 a2 a3 a4 a5 a6 a7 a8 a9 qH qI a12 qJ qL qM:α)
def iN (n:Nat):Ra:=bif Nat.beq n 0 then .d0 else bif Nat.beq n 1 then .d1 else bif Nat.beq n 2 then .d2 else bif Nat.beq n 3 then .d3 else bif Nat.beq n 4 then .d4 else bif Nat.beq n 5 then .d5 else bif Nat.beq n 6 then .d6 else bif Nat.beq n 7 then .d7 else bif Nat.beq n 8 then .d8 else bif Nat.beq n 9 then .d9 else bif Nat.beq n 10 then .d10 else bif Nat.beq n 11 then .d11 else bif Nat.beq n 12 then .d12 else bif Nat.beq n 13 then .d13 else bif Nat.beq n 14 then .d14 else .d15
noncomputable def dF.get {α:Type} (d:Ra) (t:dF α):α:=
 Ra.rec (motive:=fun _=>dF α→α) (fun t=>dF.rec (motive:=fun _=>α) (fun a0 _ _ _ _ _ _ _ _ _ _ _ _ _ _ _=>a0) t) (fun t=>dF.rec (motive:=fun _=>α) (fun _ a1 _ _ _ _ _ _ _ _ _ _ _ _ _ _=>a1) t) (fun t=>dF.rec (motive:=fun _=>α) (fun _ _ a2 _ _ _ _ _ _ _ _ _ _ _ _ _=>a2) t) (fun t=>dF.rec (motive:=fun _=>α) (fun _ _ _ a3 _ _ _ _ _ _ _ _ _ _ _ _=>a3) t) (fun t=>dF.rec (motive:=fun _=>α) (fun _ _ _ _ a4 _ _ _ _ _ _ _ _ _ _ _=>a4) t) (fun t=>dF.rec (motive:=fun _=>α) (fun _ _ _ _ _ a5 _ _ _ _ _ _ _ _ _ _=>a5) t) (fun t=>dF.rec (motive:=fun _=>α) (fun _ _ _ _ _ _ a6 _ _ _ _ _ _ _ _ _=>a6) t) (fun t=>dF.rec (motive:=fun _=>α) (fun _ _ _ _ _ _ _ a7 _ _ _ _ _ _ _ _=>a7) t) (fun t=>dF.rec (motive:=fun _=>α) (fun _ _ _ _ _ _ _ _ a8 _ _ _ _ _ _ _=>a8) t) (fun t=>dF.rec (motive:=fun _=>α) (fun _ _ _ _ _ _ _ _ _ a9 _ _ _ _ _ _=>a9) t) (fun t=>dF.rec (motive:=fun _=>α) (fun _ _ _ _ _ _ _ _ _ _ qH _ _ _ _ _=>qH) t) (fun t=>dF.rec (motive:=fun _=>α) (fun _ _ _ _ _ _ _ _ _ _ _ qI _ _ _ _=>qI) t) (fun t=>dF.rec (motive:=fun _=>α) (fun _ _ _ _ _ _ _ _ _ _ _ _ a12 _ _ _=>a12) t) (fun t=>dF.rec (motive:=fun _=>α) (fun _ _ _ _ _ _ _ _ _ _ _ _ _ qJ _ _=>qJ) t) (fun t=>dF.rec (motive:=fun _=>α) (fun _ _ _ _ _ _ _ _ _ _ _ _ _ _ qL _=>qL) t) (fun t=>dF.rec (motive:=fun _=>α) (fun _ _ _ _ _ _ _ _ _ _ _ _ _ _ _ qM=>qM) t) d t
noncomputable def dF.put {α:Type} (d:Ra) (v:α) (t:dF α):dF α:=
 Ra.rec (motive:=fun _=>α→dF α→dF α) (fun v t=>dF.rec (motive:=fun _=>dF α) (fun _ a1 a2 a3 a4 a5 a6 a7 a8 a9 qH qI a12 qJ qL qM=>.mk v a1 a2 a3 a4 a5 a6 a7 a8 a9 qH qI a12 qJ qL qM) t) (fun v t=>dF.rec (motive:=fun _=>dF α) (fun a0 _ a2 a3 a4 a5 a6 a7 a8 a9 qH qI a12 qJ qL qM=>.mk a0 v a2 a3 a4 a5 a6 a7 a8 a9 qH qI a12 qJ qL qM) t) (fun v t=>dF.rec (motive:=fun _=>dF α) (fun a0 a1 _ a3 a4 a5 a6 a7 a8 a9 qH qI a12 qJ qL qM=>.mk a0 a1 v a3 a4 a5 a6 a7 a8 a9 qH qI a12 qJ qL qM) t) (fun v t=>dF.rec (motive:=fun _=>dF α) (fun a0 a1 a2 _ a4 a5 a6 a7 a8 a9 qH qI a12 qJ qL qM=>.mk a0 a1 a2 v a4 a5 a6 a7 a8 a9 qH qI a12 qJ qL qM) t) (fun v t=>dF.rec (motive:=fun _=>dF α) (fun a0 a1 a2 a3 _ a5 a6 a7 a8 a9 qH qI a12 qJ qL qM=>.mk a0 a1 a2 a3 v a5 a6 a7 a8 a9 qH qI a12 qJ qL qM) t) (fun v t=>dF.rec (motive:=fun _=>dF α) (fun a0 a1 a2 a3 a4 _ a6 a7 a8 a9 qH qI a12 qJ qL qM=>.mk a0 a1 a2 a3 a4 v a6 a7 a8 a9 qH qI a12 qJ qL qM) t) (fun v t=>dF.rec (motive:=fun _=>dF α) (fun a0 a1 a2 a3 a4 a5 _ a7 a8 a9 qH qI a12 qJ qL qM=>.mk a0 a1 a2 a3 a4 a5 v a7 a8 a9 qH qI a12 qJ qL qM) t) (fun v t=>dF.rec (motive:=fun _=>dF α) (fun a0 a1 a2 a3 a4 a5 a6 _ a8 a9 qH qI a12 qJ qL qM=>.mk a0 a1 a2 a3 a4 a5 a6 v a8 a9 qH qI a12 qJ qL qM) t) (fun v t=>dF.rec (motive:=fun _=>dF α) (fun a0 a1 a2 a3 a4 a5 a6 a7 _ a9 qH qI a12 qJ qL qM=>.mk a0 a1 a2 a3 a4 a5 a6 a7 v a9 qH qI a12 qJ qL qM) t) (fun v t=>dF.rec (motive:=fun _=>dF α) (fun a0 a1 a2 a3 a4 a5 a6 a7 a8 _ qH qI a12 qJ qL qM=>.mk a0 a1 a2 a3 a4 a5 a6 a7 a8 v qH qI a12 qJ qL qM) t) (fun v t=>dF.rec (motive:=fun _=>dF α) (fun a0 a1 a2 a3 a4 a5 a6 a7 a8 a9 _ qI a12 qJ qL qM=>.mk a0 a1 a2 a3 a4 a5 a6 a7 a8 a9 v qI a12 qJ qL qM) t) (fun v t=>dF.rec (motive:=fun _=>dF α) (fun a0 a1 a2 a3 a4 a5 a6 a7 a8 a9 qH _ a12 qJ qL qM=>.mk a0 a1 a2 a3 a4 a5 a6 a7 a8 a9 qH v a12 qJ qL qM) t) (fun v t=>dF.rec (motive:=fun _=>dF α) (fun a0 a1 a2 a3 a4 a5 a6 a7 a8 a9 qH qI _ qJ qL qM=>.mk a0 a1 a2 a3 a4 a5 a6 a7 a8 a9 qH qI v qJ qL qM) t) (fun v t=>dF.rec (motive:=fun _=>dF α) (fun a0 a1 a2 a3 a4 a5 a6 a7 a8 a9 qH qI a12 _ qL qM=>.mk a0 a1 a2 a3 a4 a5 a6 a7 a8 a9 qH qI a12 v qL qM) t) (fun v t=>dF.rec (motive:=fun _=>dF α) (fun a0 a1 a2 a3 a4 a5 a6 a7 a8 a9 qH qI a12 qJ _ qM=>.mk a0 a1 a2 a3 a4 a5 a6 a7 a8 a9 qH qI a12 qJ v qM) t) (fun v t=>dF.rec (motive:=fun _=>dF α) (fun a0 a1 a2 a3 a4 a5 a6 a7 a8 a9 qH qI a12 qJ qL _=>.mk a0 a1 a2 a3 a4 a5 a6 a7 a8 a9 qH qI a12 qJ qL v) t) d v t
def dF.all {α:Type} (v:α):dF α:=.mk v v v v v v v v v v v v v v v v
theorem dF.get_put {α:Type} (d e:Ra) (v:α) (t:dF α):(t.put d v).get e=if d=e then v else t.get e:=by
 cases t;cases d<;>cases e<;>rfl
theorem dF.GR {α:Type} (d:Ra) (v:α):(dF.all v).get d=v:=by cases d<;>rfl
theorem nG {n m:Nat} (hn:n < 16) (hm:m < 16) (h:iN n=iN m):n=m:=by
 have key:∀n:Fin 16,∀m:Fin 16,iN n.1=iN m.1→n.1=m.1:=by decide
 exact key ⟨n,hn⟩ ⟨m,hm⟩ h
abbrev zO:=dF (dF RV)
noncomputable def zO.get (t:Nat) (R:zO):RV:=dF.get (iN (t % 16)) (dF.get (iN (t / 16)) R)
noncomputable def zO.put (t:Nat) (v:RV) (R:zO):zO:=dF.put (iN (t / 16)) (dF.put (iN (t % 16)) v (dF.get (iN (t / 16)) R)) R
inductive RT where
 | mk (lo hi:zO)
noncomputable def RT.get (t:Nat) (R:RT):RV:=RT.rec (motive:=fun _=>RV) (fun lo hi=>Bool.rec (motive:=fun _=>RV) (zO.get t lo) (zO.get (t-256) hi) (Nat.ble 256 t)) R
noncomputable def RT.put (t:Nat) (v:RV) (R:RT):RT:=RT.rec (motive:=fun _=>RT) (fun lo hi=>Bool.rec (motive:=fun _=>RT) (.mk (zO.put t v lo) hi) (.mk lo (zO.put (t-256) v hi)) (Nat.ble 256 t)) R
noncomputable def RT.fn (R:RT) (t:Nat):RV:=bif Nat.ble 512 t then .bot else R.get t
noncomputable def RT.nil:RT:=.mk (dF.all (dF.all .bot)) (dF.all (dF.all .bot))
theorem zO.get_put {t u:Nat} (ht:t < 256) (hu:u < 256) (v:RV) (R:zO):zO.get u (zO.put t v R)=if u=t then v else zO.get u R:=by
 simp only [zO.get,zO.put,dF.get_put];by_cases e:u=t
 ·subst e;simp [dF.get_put]
 ·rw [if_neg e];by_cases h1:iN (t / 16)=iN (u / 16)
  ·have:=nG (by omega) (by omega) h1
   rw [if_pos h1,dF.get_put,if_neg (fun h2=>by have:=nG (by omega) (by omega) h2;omega),h1]
  ·rw [if_neg h1]
theorem RT.get_put {t u:Nat} (ht:t < 512) (hu:u < 512) (v:RV) (R:RT):(R.put t v).get u=if u=t then v else R.get u:=by
 cases R with
 | mk lo hi=>
 unfold RT.get RT.put;by_cases h1:256≤t
 ·rw [Nat.ble_eq_true_of_le h1];by_cases h2:256≤u
  ·rw [Nat.ble_eq_true_of_le h2];simp only;rw [zO.get_put (by omega) (by omega)];by_cases e:u=t
   ·rw [if_pos e,if_pos (by omega)]
   ·rw [if_neg e,if_neg (by omega)]
  ·have hb:Nat.ble 256 u=false:=by cases h:Nat.ble 256 u;rfl;exact absurd (Nat.le_of_ble_eq_true h) h2
   rw [hb];simp only;rw [if_neg (by omega)]
 ·have hb:Nat.ble 256 t=false:=by cases h:Nat.ble 256 t;rfl;exact absurd (Nat.le_of_ble_eq_true h) h1
  rw [hb];by_cases h2:256≤u
  ·rw [Nat.ble_eq_true_of_le h2];simp only;rw [if_neg (by omega)]
  ·have hb:Nat.ble 256 u=false:=by cases h:Nat.ble 256 u;rfl;exact absurd (Nat.le_of_ble_eq_true h) h2
   rw [hb];simp only;rw [zO.get_put (by omega) (by omega)]
theorem RT.rE {t:Nat} (ht:t < 512) (v:RV) (R:RT):(R.put t v).fn=iP R.fn t v:=by
 funext u;unfold RT.fn iP;by_cases hu:u < 512
 ·have hb:Nat.ble 512 u=false:=by cases h:Nat.ble 512 u;rfl;exact absurd (Nat.le_of_ble_eq_true h) (by omega)
  simp only [hb,cond_false];rw [RT.get_put ht hu]
 ·have hb:Nat.ble 512 u=true:=Nat.ble_eq_true_of_le (by omega);simp only [hb,cond_true];rw [if_neg (by omega)]
theorem RT.get_nil (t:Nat):RT.nil.get t = .bot:=by
 unfold RT.get RT.nil zO.get;cases Nat.ble 256 t<;>simp only [dF.GR]
theorem RT.Fv:RT.nil.fn=fun _=>.bot:=by
 funext t;unfold RT.fn;rw [RT.get_nil];cases Nat.ble 512 t<;>rfl
abbrev OT:=dF (dF (dF (dF (dF (Option au)))))
noncomputable def OT.get (i:Nat) (O:OT):Option au:=
 dF.get (iN (i % 16)) (dF.get (iN (i / 16 % 16)) (dF.get (iN (i / 256 % 16)) (dF.get (iN (i / 4096 % 16)) (dF.get (iN (i / 65536)) O))))
noncomputable def OT.put (i:Nat) (p:Option au) (O:OT):OT:=
 dF.put (iN (i / 65536)) (dF.put (iN (i / 4096 % 16)) (dF.put (iN (i / 256 % 16)) (dF.put (iN (i / 16 % 16)) (dF.put (iN (i % 16)) p
  (dF.get (iN (i / 16 % 16)) (dF.get (iN (i / 256 % 16)) (dF.get (iN (i / 4096 % 16)) (dF.get (iN (i / 65536)) O)))))
  (dF.get (iN (i / 256 % 16)) (dF.get (iN (i / 4096 % 16)) (dF.get (iN (i / 65536)) O))))
  (dF.get (iN (i / 4096 % 16)) (dF.get (iN (i / 65536)) O))) (dF.get (iN (i / 65536)) O)) O
noncomputable def OT.fn (O:OT) (i:Nat):Option au:=bif Nat.ble 1048576 i then none else O.get i
noncomputable def OT.nil:OT:=dF.all (dF.all (dF.all (dF.all (dF.all none))))
theorem OT.rE {i:Nat} (hi:i < 1048576) (p:Option au) (O:OT):(O.put i p).fn=bq O.fn i p:=by
 funext u;unfold OT.fn bq;by_cases hu:u < 1048576
 ·have hb:Nat.ble 1048576 u=false:=by cases h:Nat.ble 1048576 u;rfl;exact absurd (Nat.le_of_ble_eq_true h) (by omega)
  simp only [hb,cond_false,OT.get,OT.put,dF.get_put];by_cases e:u=i
  ·subst e;simp [dF.get_put]
  ·rw [if_neg e];by_cases h0:iN (i / 65536)=iN (u / 65536)
   ·have e0:=nG (by omega) (by omega) h0;rw [if_pos h0,dF.get_put,h0];by_cases h1:iN (i / 4096 % 16)=iN (u / 4096 % 16)
    ·have e1:=nG (by omega) (by omega) h1;rw [if_pos h1,dF.get_put,h1];by_cases h2:iN (i / 256 % 16)=iN (u / 256 % 16)
     ·have e2:=nG (by omega) (by omega) h2;rw [if_pos h2,dF.get_put,h2];by_cases h3:iN (i / 16 % 16)=iN (u / 16 % 16)
      ·have e3:=nG (by omega) (by omega) h3;rw [if_pos h3,dF.get_put,h3,if_neg (fun h4=>by have:=nG (by omega) (by omega) h4;omega)]
      ·rw [if_neg h3]
     ·rw [if_neg h2]
    ·rw [if_neg h1]
   ·rw [if_neg h0]
 ·have hb:Nat.ble 1048576 u=true:=Nat.ble_eq_true_of_le (by omega);simp only [hb,cond_true];rw [if_neg (by omega)]
theorem OT.Fv:OT.nil.fn=fun _=>none:=by
 funext t;unfold OT.fn OT.nil OT.get;simp only [dF.GR];cases Nat.ble 1048576 t<;>rfl
end Go.Am
namespace Go.Am
set_option linter.unusedSectionVars false
variable {P:Program} [Gl]
def allT:List Bool→Bool
 | []=>true
 | b::r=>match b with
   | true=>allT r
   | false=>false
theorem kH:∀{l:List Bool},allT l=true→∀b∈l,b=true
 | [],_,b,h=>by simp at h
 | x::r,h,b,hb=>by
   simp only [allT] at h;split at h
   ·rcases List.mem_cons.1 hb with rfl | hb
    ·rfl
    ·exact kH h b hb
   ·cases h
abbrev Vr:=RT×OT×Nat
abbrev lI:=Nat→List RV→OT→Nat→Option (RV×OT×Nat)
noncomputable def pY (O:OT):List (Nat×au)→OT
 | []=>O
 | (i,p)::r=>pY (O.put i (some p)) r
noncomputable def jm (R:RT) (dst:Option Nat) (v:RV):RT:=
 match dst with
 | none=>R
 | some d=>R.put d v
def nH:List (Nat×au)→Bool
 | []=>true
 | (i,_)::r=>bif Nat.ble i 1048575 then nH r else false
def Qn (nx:Nat):List (Nat×au)→Nat
 | []=>nx
 | u=>nx+(u.length+1)
noncomputable def xQ (R:RT) (O:OT) (nx:Nat) (dst:Option Nat) (r:Option (bX×Bool)):Option Vr:=
 match r with
 | none=>none
 | some (res,_)=>match res with
   | { val:=v,upd:=u,conds:=c }=>bif allT c then
       match u with
       | []=>some (jm R dst v,O,nx)
       | _::_=>bif nH u then some (jm R dst v,pY O u,Qn nx u) else none
     else none
noncomputable def GU (cf:dK) (has:Nat→Bool) (call:lI) (ops:Array Oper) (R:RT) (O:OT) (nx:Nat) (o:Oper):Option Vr:=
 match guardOf R.fn ops o with
 | none=>none
 | some false=>some (jm R o.dst .und,O,nx)
 | some true=>match o.op with
   | .move x=>some (jm R o.dst (aH R.fn x),O,nx)
   | .assign x=>some (jm R o.dst (aH R.fn x),O,nx)
   | .call c=>match c.callee with
     | .value f=>match aH R.fn f with
       | .fM (.func g) first caps=>bif cf.dP g then
          match (bif has g then gJ cf.K (cf.cK g) O.fn nx g (first++c.args.toList.map (aH R.fn)++caps) else none) with
          | some res=>xQ R O nx o.dst (some (res,false))
          | none=>match call g (first++c.args.toList.map (aH R.fn)++caps) O nx with
            | some (v,O',nx')=>some (jm R o.dst v,O',nx')
            | none=>none
         else none
       | _=>none
     | _=>xQ R O nx o.dst (lU cf R.fn O.fn nx o)
   | _=>xQ R O nx o.dst (lU cf R.fn O.fn nx o)
noncomputable def Fw (cf:dK) (has:Nat→Bool) (call:lI) (ops:Array Oper):List Oper→RT→OT→Nat→Option Vr
 | [],R,O,nx=>some (R,O,nx)
 | o::r,R,O,nx=>match GU cf has call ops R O nx o with
   | some (R',O',nx')=>Fw cf has call ops r R' O' nx'
   | none=>none
noncomputable def vQ (cf:dK) (ops:Array Oper) (O:Tab):List Oper→RT→Option RT
 | [],R=>some R
 | o::r,R=>match jU cf ops [] R.fn O o with
   | none=>none
   | some (v,c,_)=>bif allT c then vQ cf ops O r (jm R o.dst v) else none
noncomputable def vE (cf:dK) (ops:Array Oper) (n z:Nat):List Oper→RT→OT→List (List Nat×List Nat)→Option (RT×OT×List (List Nat×List Nat))
 | [],R,O,rs=>some (R,O,rs)
 | o::r,R,O,rs=>match qp cf ops [] R.fn (mR (foot R.fn O.fn o) O.fn) (bA n z o) o with
   | none=>none
   | some (v,u,c,_)=>bif allT c&&nH u&&kR O.fn (foot R.fn O.fn o) (bA n z o::(bA n z o+1)::bD u) then
      vE cf ops n z r (jm R o.dst v) (pY O u) (rs++[(foot R.fn O.fn o++bA n z o::(bA n z o+1)::bD u,bD u)])
     else none
def fA (o:Oper):Bool:=match o.op with
 | .call _=>match o.op with
   | .call c=>match c.callee with
     | .builtin b=>match b with
       | .append=>false
       | .copy=>false
       | .clear=>false
       | .delete=>false
       | _=>true
     | _=>false
   | _=>false
 | .alloc _=>false
 | .box _ _=>false
 | .buildSlice _ _ _=>false
 | .store _ _ _=>false
 | .makeSlice _ _ _=>false
 | .makeMap _ _=>false
 | .mapUpdate _ _ _ _=>false
 | .convert _ _ _=>false
 | _=>true
def Om:List Oper→Nat→Nat
 | [],m=>m
 | o::r,m=>match o.dst with
   | some d=>Om r (bif Nat.ble d m then d else m)
   | none=>Om r m
def Rb:List Oper→Nat→Nat
 | [],m=>m
 | o::r,m=>match o.dst with
   | some d=>Rb r (bif Nat.ble m d then d else m)
   | none=>Rb r m
noncomputable def zP:Nat→List au→OT→OT
 | _,[],O=>O
 | i,p::r,O=>zP (i+1) r (O.put i (some p))
def collect (m:Nat) (r:RV) (O:Tab):Option (RV×List au):=
 let ps:=List.range m++(reach O 400 (r.refs 6++(List.range m).flatMap fun i=>rZ (O i)) []).filter (fun i=>Nat.ble m i)
 bif nodupB ps then
  match r.ren (fun i=>idx i ps 0) 6,dO (fun i=>match O i with | some p=>p.ren (fun i=>idx i ps 0) | none=>none) ps with
  | some r',some os=>some (r',os)
  | _,_=>none
 else none
noncomputable def IZ (call:lI):tN:=fun f args objs=>
 bif Nat.ble objs.length 4000 then
  match call f args (zP 0 objs OT.nil) 4096 with
  | some (r,O',_)=>match collect objs.length r O'.fn with
    | some (r',os)=>some (r',os,[])
    | none=>none
  | none=>none
 else none
noncomputable def BL (cf:dK) (has:Nat→Bool) (call:lI) (n:Nat) (ops:Array Oper) (draw:Bool) (R:RT) (O:OT) (nx:Nat):Option Vr:=
 bif cO n ops then
  match draw with
  | false=>Fw cf has call ops ops.toList R O nx
  | true=>bif iB ops then
     bif ops.toList.all fA then
      match vQ cf ops O.fn ops.toList R with
      | some R'=>some (R',O,nx)
      | none=>none
     else match vE { cf with K:=V5 cf.K (IZ call),cK:=fun _=>true,diff:=true } ops n (nx-32*Om ops.toList n) ops.toList R O [] with
      | some (R',O',rs)=>bif oD rs (y5 ops.toList []) then some (R',O',nx+32*(Rb ops.toList 0+2-Om ops.toList n)) else none
      | none=>none
    else none
 else none
noncomputable def zQ:Nat→List RV→RT→RT
 | _,[],R=>R
 | i,v::r,R=>zQ (i+1) r (R.put i v)
end Go.Am
namespace Go.Am
set_option linter.unusedSectionVars false
variable {P:Program} [Gl] [Df]
theorem sO {R:Nat→RV} {dst:Option Nat} {v:RV} {d:Nat} (h:dst≠some d):iI R dst v d=R d:=by
 cases dst with
 | none=>rfl
 | some e=>
   have:d≠e:=fun x=>h (by rw [x])
   simp [iI,iP,this]
theorem BM {R:Nat→RV} {dst:Option Nat} {v:RV} {d:Nat} (h:dst=some d):iI R dst v d=v:=by
 subst h;simp [iI,iP]
def sP (cf:dK) (ops:Array Oper) (ov:Ov) (O:Tab):List Oper→(Nat→RV)→List Bool→List (RV×RV)→Option ((Nat→RV)×List Bool×List (RV×RV))
 | [],R,cs,es=>some (R,cs,es)
 | o::r,R,cs,es=>match jU cf ops ov R O o with
   | none=>none
   | some (v,c,e)=>sP cf ops ov O r (iI R o.dst v) (cs++c) (es++e)
theorem rF {cf:dK} {ops:Array Oper} {ov:Ov} {O:Tab}:∀(l:List Oper) (R R' : Nat→RV) (cs cs' : List Bool) (es es' : List (RV×RV)),sP cf ops ov O l R cs es=some (R',cs',es')→
 (∀c∈cs,c∈cs')∧(∀e∈es,e∈es')∧(∀d,(∀o∈l,o.dst≠some d)→R' d=R d)
 | [],R,R',cs,cs',es,es',h=>by
   simp [sP] at h;obtain ⟨rfl,rfl,rfl⟩:=h;exact ⟨fun _ h=>h,fun _ h=>h,fun _ _=>rfl⟩
 | o::r,R,R',cs,cs',es,es',h=>by
   simp only [sP] at h;cases h1:jU cf ops ov R O o with
   | none=>rw [h1] at h;simp at h
   | some p=>
     obtain ⟨v,c,e⟩:=p;rw [h1] at h;simp only at h;obtain ⟨q1,q2,q3⟩:=rF r _ _ _ _ _ _ h;refine ⟨fun c hc=>q1 c (by simp [hc]),fun e he=>q2 e (by simp [he]),fun d hh=>?_⟩;rw [q3 d (fun o ho=>hh o (by simp [ho])),sO (hh o (by simp))]
theorem DL {cf:dK} {ops:Array Oper} {ov:Ov} {O:Tab}:∀(l:List Oper) (R0 R' : Nat→RV) (cs cs' : List Bool) (es es' : List (RV×RV)),sP cf ops ov O l R0 cs es=some (R',cs',es')→
 (∀(i j:Nat) (p q:Oper) (d:Nat),l[i]? = some p→l[j]? = some q→p.dst=some d→q.dst=some d→i=j)→
 ∀(j:Nat) (o:Oper),l[j]? = some o→∃(R:Nat→RV) (v:RV) (c:List Bool) (e:List (RV×RV)),jU cf ops ov R O o=some (v,c,e)∧(∀x∈c,x∈cs')∧(∀x∈e,x∈es')∧
  (∀d,o.dst=some d→R' d=v)∧(∀d,(∀(i:Nat) (p:Oper),i < j→l[i]? = some p→p.dst≠some d)→R d=R0 d)∧
  (∀(i:Nat) (p:Oper) (d:Nat),i < j→l[i]? = some p→p.dst=some d→R d=R' d)
 | [],R0,R',cs,cs',es,es',h,hnd,j,o,hj=>by simp at hj
 | o0::r,R0,R',cs,cs',es,es',h,hnd,j,o,hj=>by
   simp only [sP] at h;cases h1:jU cf ops ov R0 O o0 with
   | none=>rw [h1] at h;simp at h
   | some p=>
     obtain ⟨v,c,e⟩:=p;rw [h1] at h;simp only at h
     have hnd' : ∀(i j:Nat) (p q:Oper) (d:Nat),r[i]? = some p→r[j]? = some q→p.dst=some d→q.dst=some d→i=j:=fun i j p q d hi hj' hp hq=>by
      have:=hnd (i+1) (j+1) p q d (by simpa using hi) (by simpa using hj') hp hq;omega
     obtain ⟨m1,m2,m3⟩:=rF r _ _ _ _ _ _ h;cases j with
     | zero=>
       simp at hj;subst hj;refine ⟨R0,v,c,e,h1,fun x hx=>m1 x (by simp [hx]),fun x hx=>m2 x (by simp [hx]),fun d hd=>?_,fun d _=>rfl,fun i p d hi=>by omega⟩
       rw [m3 d (fun q hq qo=>by
        obtain ⟨k,hk⟩:=List.mem_iff_getElem?.1 hq
        have:=hnd 0 (k+1) o0 q d rfl (by simpa using hk) hd qo;omega)]
       exact BM hd
     | succ j=>
       obtain ⟨R,v',c',e',k1,k2,k3,k4,k5,k6⟩:=DL r _ R' _ _ _ _ h hnd' j o (by simpa using hj);refine ⟨R,v',c',e',k1,k2,k3,k4,fun d hd=>?_,fun i p d hi hp vW=>?_⟩
       ·rw [k5 d (fun i p hi hp=>hd (i+1) p (by omega) (by simpa using hp)),sO (hd 0 o0 (by omega) rfl)]
       ·cases i with
        | zero=>
          simp at hp;subst hp
          rw [k5 d (fun i q hi hq qo=>by
           have:=hnd 0 (i+1) o0 q d rfl (by simpa using hq) vW qo;omega)]
          rw [m3 d (fun q hq qo=>by
           obtain ⟨k,hk⟩:=List.mem_iff_getElem?.1 hq
           have:=hnd 0 (k+1) o0 q d rfl (by simpa using hk) vW qo;omega)]
        | succ i=>exact k6 i p d (by omega) (by simpa using hp) vW
theorem Fx {cf:dK} (hcf:jh P cf) {ops:Array Oper} {ov:Ov} {s:bP} {R0 R' : Nat→RV} {cs:List Bool} {es:List (RV×RV)} {m:Nat} {κ0:bn} {w0:World} {φ0:bG}
 (hq:iB ops=true) (hg:cO s.n ops=true) (hs:s.R=R0) (hrun:sP cf ops ov s.O ops.toList R0 [] []=some (R',cs,es)) (hc:∀c∈cs,c=true) (he:∀e∈es,ji e.1 e.2) :
 (∀(fuel:Nat) (L:Array Bool) (κ:bn) (φ:bG) (w:World) (a:Act),L.size=ops.size→L.toList.countP (· == false)=fuel→
   (∀(j:Nat) (o:Oper),ops[j]? = some o→L.getD j false=true→∀e∈o.after,Region.binds .any e=true→L.getD e.on false=true)→av κ φ w { s with R:=bK ops s.R R' L } a→
   Fr κ0 w0 κ w→mZ m φ0 s.O φ s.O→
   wpAny P .any ops (fun e a' w'=>e = .normal∧∃κ' φ',av κ' φ' w' { s with R:=R' } a'∧Fr κ0 w0 κ' w'∧mZ m φ0 s.O φ' s.O) fuel L a w):=by
 have hnd:∀(i j:Nat) (p q:Oper) (d:Nat),ops.toList[i]? = some p→ops.toList[j]? = some q→p.dst=some d→q.dst=some d→i=j:=by
  intro i j p q d hi hj hp qo;rcases ((bS hq (j:=j) (o:=q) (by simpa using hj)).2 i p d (by simpa using hi) hp).1 with h | h
  ·exact h
  ·exact absurd qo h
 have hat:=DL ops.toList R0 R' [] cs [] es hrun hnd;have hout:=(rF ops.toList R0 R' [] cs [] es hrun).2.2
 have full:∀(L:Array Bool),L.size=ops.size→(∀i,i < ops.size→L.getD i true=true)→bK ops s.R R' L=R':=by
  intro L hL hall;funext d;unfold bK;split
  ·rfl
  ·rename_i hne;rw [hs,hout d (fun o ho hd=>hne ?_)];obtain ⟨i,hi⟩:=List.mem_iff_getElem?.1 ho;have hi' : ops[i]? = some o:=by simpa using hi
   have hlt:=(Array.getElem?_eq_some_iff.1 hi').1;have hlt2:i < L.size:=by omega
   have:=hall i hlt
   exact ⟨i,o,hi',hd,by simp [Array.getD,hlt2] at this ⊢;exact this⟩
 intro fuel;induction fuel with
 | zero=>
   intro L κ φ w a hL hcnt hcl F hR hK;have hall:=kP hcnt;rw [full L hL (fun i hi=>hall i (by omega))] at F;refine ⟨?_,rfl,κ,φ,F,hR,hK⟩;cases hr:Region.ready .any ops L with
   | nil=>rfl
   | cons i r=>
     obtain ⟨o,_,h1,h2,_⟩:=mem_ready (md:=.any) (ops:=ops) (L:=L) (i:=i) (by rw [hr];simp);rw [hall i (by omega)] at h2;cases h2
 | succ fuel ih=>
   intro L κ φ w a hL hcnt hcl F hR hK;refine ⟨fun hr=>?_,fun j hj=>?_⟩
   ·have hall:=ready_nil hL (fun j o ho=>(bS hq ho).1) hr;rw [full L hL hall] at F;exact ⟨rfl,κ,φ,F,hR,hK⟩
   ·obtain ⟨o,ho,hjn,hlj,gY⟩:=mem_ready hj;obtain ⟨R,v,c,e,k1,k2,k3,k4,k5,k6⟩:=hat j o (by simpa using ho);obtain ⟨s1,s2⟩:=bS hq ho
    have same:∀d,d∈looks o ops→bK ops s.R R' L d=R d:=by
     intro d hd;by_cases hw:∃(i:Nat) (p:Oper),ops[i]? = some p∧p.dst=some d
     ·obtain ⟨i,p,hi,hp⟩:=hw;rcases (s2 i p d hi hp).2 hd with ⟨hij,ed,he1,he2,qY⟩ | ⟨hij,ed,he1,he2,qY⟩
      ·have Oh:L.getD i false=true:=by rw [←he2];exact gY ed he1 qY
       unfold bK;rw [if_pos ⟨i,p,hi,hp,Oh⟩];exact (k6 i p d hij (by simpa using hi) hp).symm
      ·have ou:L.getD j false=false:=by
        have:j < L.size:=by omega
        simp [Array.getD,this] at hlj ⊢;exact hlj
       have only:∀(i' : Nat) (p' : Oper),ops[i']? = some p'→p'.dst=some d→i'=i:=fun i' p' h1 h2=>hnd i' i p' p d (by simpa using h1) (by simpa using hi) h2 hp;unfold bK
       rw [if_neg (fun ⟨i',p',h1,h2,h3⟩=>by
        have e:=only i' p' h1 h2;subst e;rw [h1] at hi;injection hi with hi;subst hi
        have:=hcl i' p' h1 h3 ed he1 qY
        rw [he2,ou] at this;cases this),hs]
       exact (k5 d (fun i' p' h0 h1 h2=>by have:=only i' p' (by simpa using h1) h2;omega)).symm
     ·unfold bK;rw [if_neg (fun ⟨i,p,hi,hp,_⟩=>hw ⟨i,p,hi,hp⟩),hs];exact (k5 d (fun i p _ hp vW=>hw ⟨i,p,by simpa using hp,vW⟩)).symm
    have Kr:jU cf ops ov (bK ops s.R R' L) s.O o=some (v,c,e):=by
     rw [←k1]
     have h1:guardOf (bK ops s.R R' L) ops o=guardOf R ops o:=by
      unfold guardOf;cases hgu:o.guard with
      | none=>rfl
      | some p=>
        obtain ⟨g,want⟩:=p;simp only;cases hog:ops[g]? with
        | none=>rfl
        | some gg=>
          simp only;cases hgd:gg.dst with
          | none=>rfl
          | some d=>
            simp only;rw [same d (by simp only [looks,List.mem_append];right;rw [hgu];simp only [hog,hgd];simp)]
     have h2:lU cf (bK ops s.R R' L) s.O 0 o=lU cf R s.O 0 o:=nC fun x hx=>kN fun d hd=>by
      subst hd;refine same d ?_;simp only [looks,List.mem_append,List.mem_filterMap];left;exact ⟨.tmp d,by simpa using hx,rfl⟩
     unfold jU;rw [h1,h2]
    refine Bj hcf F Kr (fun x hx=>hc x (k2 x hx)) (fun x hx=>he x (k3 x hx)) ho (bV hg) (fun a' w' κ' φ' g1 g2 g3=>?_)
    have hset:iI (bK ops s.R R' L) o.dst v=bK ops s.R R' (L.setIfInBounds j true):=by
     funext d
     have hget:∀i,(L.setIfInBounds j true).getD i false=if i=j then true else L.getD i false:=by
      intro i;simp only [Array.getD_eq_getD_getElem?,Array.getElem?_setIfInBounds];by_cases e:i=j
      ·subst e;have:i < L.size:=by omega
       simp [this]
      ·have:¬j=i:=fun h=>e h.symm
       simp [e,this]
     cases hd:o.dst with
     | none=>
       simp only [iI];unfold bK;congr 1;apply propext;constructor
       ·rintro ⟨i,p,h1,h2,h3⟩
        exact ⟨i,p,h1,h2,by rw [hget];split;rfl;exact h3⟩
       ·rintro ⟨i,p,h1,h2,h3⟩
        rw [hget] at h3;by_cases e:i=j
        ·subst e;rw [ho] at h1;injection h1 with h1;subst h1;rw [hd] at h2;cases h2
        ·rw [if_neg e] at h3;exact ⟨i,p,h1,h2,h3⟩
     | some d0=>
       simp only [iI,iP];by_cases e0:d=d0
       ·subst e0;rw [if_pos rfl];unfold bK;rw [if_pos ⟨j,o,ho,hd,by rw [hget];simp⟩,k4 d hd]
       ·rw [if_neg e0];unfold bK;congr 1;apply propext;constructor
        ·rintro ⟨i,p,h1,h2,h3⟩
         exact ⟨i,p,h1,h2,by rw [hget];split;rfl;exact h3⟩
        ·rintro ⟨i,p,h1,h2,h3⟩
         rw [hget] at h3;by_cases e:i=j
         ·subst e;rw [ho] at h1;injection h1 with h1;subst h1;rw [hd] at h2;injection h2 with h2;exact absurd h2.symm e0
         ·rw [if_neg e] at h3;exact ⟨i,p,h1,h2,h3⟩
    have g1' : av κ' φ' w' { s with R:=bK ops s.R R' (L.setIfInBounds j true) } a':=by rw [←hset];exact g1
    have hc2:=count_set (L:=L) (i:=j) (by omega) hlj
    have hget:∀i,(L.setIfInBounds j true).getD i false=if i=j then true else L.getD i false:=by
     intro i;simp only [Array.getD_eq_getD_getElem?,Array.getElem?_setIfInBounds];by_cases e:i=j
     ·subst e;have:i < L.size:=by omega
      simp [this]
     ·have:¬j=i:=fun h=>e h.symm
      simp [e,this]
    have hcl' : ∀(j' : Nat) (o' : Oper),ops[j']? = some o'→(L.setIfInBounds j true).getD j' false=true→∀e∈o'.after,Region.binds .any e=true→(L.setIfInBounds j true).getD e.on false=true:=by
     intro j' o' ho' hl' e he' hb';rw [hget] at hl' ⊢;split
     ·rfl
     ·by_cases ej:j'=j
      ·subst ej;rw [ho] at ho';injection ho' with ho';subst ho';exact gY e he' hb'
      ·rw [if_neg ej] at hl';exact hcl j' o' ho' hl' e he' hb'
    exact ih (L.setIfInBounds j true) κ' φ' w' a' (by simpa using hL) (by omega) hcl' g1' (hR.trans g2) (hK.trans (g3.m m))
def qN (cf:dK) (ops:Array Oper) (ov:Ov) (n z:Nat):List Oper→(Nat→RV)→Tab→List Bool→List (RV×RV)→List (List Nat×List Nat)→Option ((Nat→RV)×Tab×List Bool×List (RV×RV)×List (List Nat×List Nat))
 | [],R,O,cs,es,rs=>some (R,O,cs,es,rs)
 | o::r,R,O,cs,es,rs=>
   match qp cf ops ov R (mR (foot R O o) O) (bA n z o) o with
   | none=>none
   | some (v,u,c,e)=>
     bif kR O (foot R O o) (bA n z o::(bA n z o+1)::bD u) then
      qN cf ops ov n z r (iI R o.dst v) (aQ O u) (cs++c) (es++e) (rs++[(foot R O o++bA n z o::(bA n z o+1)::bD u,bD u)])
     else none
theorem rG {cf:dK} {ops:Array Oper} {ov:Ov} {n z:Nat}:∀(l:List Oper) (R R' : Nat→RV) (O O' : Tab) (cs cs' : List Bool) (es es' : List (RV×RV)) (rs rs' : List (List Nat×List Nat)),
 qN cf ops ov n z l R O cs es rs=some (R',O',cs',es',rs')→(∀c∈cs,c∈cs')∧(∀e∈es,e∈es')∧(∀d,(∀o∈l,o.dst≠some d)→R' d=R d)
 | [],R,R',O,O',cs,cs',es,es',rs,rs',h=>by
   simp [qN] at h;obtain ⟨rfl,rfl,rfl,rfl,rfl⟩:=h;exact ⟨fun _ h=>h,fun _ h=>h,fun _ _=>rfl⟩
 | o::r,R,R',O,O',cs,cs',es,es',rs,rs',h=>by
   simp only [qN] at h;split at h
   ·simp at h
   ·rename_i v u c e h1;cases hb0:(kR O (foot R O o) (bA n z o::(bA n z o+1)::bD u)) with
    | false=>rw [hb0] at h;simp at h
    | true=>
      rw [hb0] at h;simp only [cond_true] at h;obtain ⟨q1,q2,q3⟩:=rG r _ _ _ _ _ _ _ _ _ _ h;refine ⟨fun c hc=>q1 c (by simp [hc]),fun e he=>q2 e (by simp [he]),fun d hh=>?_⟩;rw [q3 d (fun o ho=>hh o (by simp [ho])),sO (hh o (by simp))]
theorem DN {cf:dK} {ops:Array Oper} {ov:Ov} {n z:Nat}:∀(l:List Oper) (R0 R' : Nat→RV) (O0 O' : Tab) (cs cs' : List Bool) (es es' : List (RV×RV)) (rs rs' : List (List Nat×List Nat)),
 qN cf ops ov n z l R0 O0 cs es rs=some (R',O',cs',es',rs')→
 (∀(i j:Nat) (p q:Oper) (d:Nat),l[i]? = some p→l[j]? = some q→p.dst=some d→q.dst=some d→i=j)→
 ∃(us:List (List (Nat×au))) (rr:List (List Nat×List Nat)),us.length=l.length∧rs'=rs++rr∧rr.length=l.length∧O'=us.foldl aQ O0∧
 ∀(j:Nat) (o:Oper),l[j]? = some o→∃(R:Nat→RV) (F:List Nat) (v:RV) (u:List (Nat×au)) (c:List Bool) (e:List (RV×RV)),
  qp cf ops ov R (mR F ((us.take j).foldl aQ O0)) (bA n z o) o=some (v,u,c,e)∧us[j]? = some u∧rr[j]? = some (F++bA n z o::(bA n z o+1)::bD u,bD u)∧
  kR ((us.take j).foldl aQ O0) F (bA n z o::(bA n z o+1)::bD u)=true∧(∀x∈c,x∈cs')∧(∀x∈e,x∈es')∧
  (∀d,o.dst=some d→R' d=v)∧(∀d,(∀(i:Nat) (p:Oper),i < j→l[i]? = some p→p.dst≠some d)→R d=R0 d)∧
  (∀(i:Nat) (p:Oper) (d:Nat),i < j→l[i]? = some p→p.dst=some d→R d=R' d)
 | [],R0,R',O0,O',cs,cs',es,es',rs,rs',h,hnd=>by
   simp [qN] at h;obtain ⟨rfl,rfl,rfl,rfl,rfl⟩:=h;exact ⟨[],[],rfl,by simp,rfl,rfl,fun j o hj=>by simp at hj⟩
 | o0::r,R0,R',O0,O',cs,cs',es,es',rs,rs',h,hnd=>by
   simp only [qN] at h;split at h
   ·simp at h
   ·rename_i v u c e h1;cases hb0:(kR O0 (foot R0 O0 o0) (bA n z o0::(bA n z o0+1)::bD u)) with
    | false=>rw [hb0] at h;simp at h
    | true=>
      rw [hb0] at h;simp only [cond_true] at h
      have hnd' : ∀(i j:Nat) (p q:Oper) (d:Nat),r[i]? = some p→r[j]? = some q→p.dst=some d→q.dst=some d→i=j:=fun i j p q d hi hj' hp hq=>by
       have:=hnd (i+1) (j+1) p q d (by simpa using hi) (by simpa using hj') hp hq;omega
      obtain ⟨m1,m2,m3⟩:=rG r _ _ _ _ _ _ _ _ _ _ h;obtain ⟨us,rr,a1,a2,a3,a4,a5⟩:=DN r _ R' _ _ _ _ _ _ _ _ h hnd';refine ⟨u::us,(foot R0 O0 o0++bA n z o0::(bA n z o0+1)::bD u,bD u)::rr,by simp [a1],by rw [a2];simp,by simp [a3],by rw [a4];rfl,fun j o hj=>?_⟩;cases j with
      | zero=>
        simp at hj;subst hj;refine ⟨R0,foot R0 O0 o0,v,u,c,e,h1,rfl,rfl,hb0,fun x hx=>m1 x (by simp [hx]),fun x hx=>m2 x (by simp [hx]),fun d hd=>?_,fun d _=>rfl,fun i p d hi=>by omega⟩
        rw [m3 d (fun q hq qo=>by
         obtain ⟨k,hk⟩:=List.mem_iff_getElem?.1 hq
         have:=hnd 0 (k+1) o0 q d rfl (by simpa using hk) hd qo;omega)]
        exact BM hd
      | succ j=>
        obtain ⟨R,F,v',u',c',e',k1,k2,k3,k4,k5,k6,k7,k8,k9⟩:=a5 j o (by simpa using hj);refine ⟨R,F,v',u',c',e',by simpa using k1,by simpa using k2,by simpa using k3,by simpa using k4,k5,k6,k7,fun d hd=>?_,fun i p d hi hp vW=>?_⟩
        ·rw [k8 d (fun i p hi hp=>hd (i+1) p (by omega) (by simpa using hp)),sO (hd 0 o0 (by omega) rfl)]
        ·cases i with
         | zero=>
           simp at hp;subst hp
           rw [k8 d (fun i q hi hq qo=>by
            have:=hnd 0 (i+1) o0 q d rfl (by simpa using hq) vW qo;omega)]
           rw [m3 d (fun q hq qo=>by
            obtain ⟨k,hk⟩:=List.mem_iff_getElem?.1 hq
            have:=hnd 0 (k+1) o0 q d rfl (by simpa using hk) vW qo;omega)]
         | succ i=>exact k9 i p d (by omega) (by simpa using hp) vW
theorem KF {cf:dK} (hcf:jh P cf) {ops:Array Oper} {ov:Ov} {s:bP} {R0 R' : Nat→RV} {O0 O' : Tab} {cs:List Bool} {es:List (RV×RV)} {rs:List (List Nat×List Nat)} {z m:Nat} {κ:bn} {φ:bG} {w:World} {a:Act}
 (hq:iB ops=true) (hg:cO s.n ops=true) (hs:s.R=R0) (hsO:s.O=O0) (hrun:qN cf ops ov s.n z ops.toList R0 O0 [] [] []=some (R',O',cs,es,rs))
 (hrows:oD rs (y5 ops.toList [])=true) (hc:∀c∈cs,c=true) (he:∀e∈es,ji e.1 e.2) (F0:av κ φ w s a) :
 wpAny P .any ops (fun e a' w'=>e = .normal∧∃κ' φ',av κ' φ' w' { s with R:=R',O:=O' } a'∧Fr κ w κ' w'∧mZ m φ s.O φ' O') ops.size (Array.replicate ops.size false) a w:=by
 have hnd:∀(i j:Nat) (p q:Oper) (d:Nat),ops.toList[i]? = some p→ops.toList[j]? = some q→p.dst=some d→q.dst=some d→i=j:=by
  intro i j p q d hi hj hp qo;rcases ((bS hq (j:=j) (o:=q) (by simpa using hj)).2 i p d (by simpa using hi) hp).1 with h | h
  ·exact h
  ·exact absurd qo h
 obtain ⟨us,rr,ul,hrs,rl,Dh,hat⟩:=DN ops.toList R0 R' O0 O' [] cs [] es [] rs hrun hnd;rw [List.nil_append] at hrs;subst hrs;have hout:=(rG ops.toList R0 R' O0 O' [] cs [] es [] rs hrun).2.2;have YG:us.length=ops.size:=by simpa using ul
 have Ku:=pU (ops:=ops) ops.toList [] (fun i o hi=>by simpa using hi) (fun i k h=>by simp at h)
 have full:∀(L:Array Bool),L.size=ops.size→(∀i,i < ops.size→L.getD i true=true)→bK ops s.R R' L=R'∧gM (fun i=>L.getD i false) 0 us s.O=O':=by
  intro L hL hall
  have DC:∀i,i < ops.size→L.getD i false=true:=fun i hi=>by
   have hlt2:i < L.size:=by omega
   have:=hall i hi
   simp [Array.getD,hlt2] at this ⊢;exact this
  constructor
  ·funext d;unfold bK;split
   ·rfl
   ·rename_i hne;rw [hs,hout d (fun o ho hd=>hne ?_)];obtain ⟨i,hi⟩:=List.mem_iff_getElem?.1 ho;have hi' : ops[i]? = some o:=by simpa using hi
    exact ⟨i,o,hi',hd,DC i (Array.getElem?_eq_some_iff.1 hi').1⟩
  ·rw [Dh,hsO];funext i;have e1:=mQ us 0 us.length O0;rw [List.take_length] at e1;rw [←e1];refine kQ us 0 _ _ rfl (fun j u hu _=>?_);have hj:=(List.getElem?_eq_some_iff.1 hu).1;rw [Nat.zero_add,DC j (by omega)];simp [hj]
 have main:∀(fuel:Nat) (L:Array Bool) (κ1:bn) (φ1:bG) (w1:World) (a1:Act),L.size=ops.size→L.toList.countP (· == false)=fuel→
  (∀(j:Nat) (o:Oper),ops[j]? = some o→L.getD j false=true→∀e∈o.after,Region.binds .any e=true→L.getD e.on false=true)→
  av κ1 φ1 w1 { s with R:=bK ops s.R R' L,O:=gM (fun i=>L.getD i false) 0 us s.O } a1→
  Fr κ w κ1 w1→mZ m φ s.O φ1 (gM (fun i=>L.getD i false) 0 us s.O)→
  wpAny P .any ops (fun e a' w'=>e = .normal∧∃κ' φ',av κ' φ' w' { s with R:=R',O:=O' } a'∧Fr κ w κ' w'∧mZ m φ s.O φ' O') fuel L a1 w1:=by
  intro fuel;induction fuel with
  | zero=>
    intro L κ1 φ1 w1 a1 hL hcnt hcl F hR hK;have hall:=kP hcnt;obtain ⟨f1,f2⟩:=full L hL (fun i hi=>hall i (by omega));rw [f1,f2] at F;rw [f2] at hK;refine ⟨?_,rfl,κ1,φ1,F,hR,hK⟩;cases hr:Region.ready .any ops L with
    | nil=>rfl
    | cons i r=>
      obtain ⟨o,_,h1,h2,_⟩:=mem_ready (md:=.any) (ops:=ops) (L:=L) (i:=i) (by rw [hr];simp);rw [hall i (by omega)] at h2;cases h2
  | succ fuel ih=>
    intro L κ1 φ1 w1 a1 hL hcnt hcl F hR hK;refine ⟨fun hr=>?_,fun j hj=>?_⟩
    ·have hall:=ready_nil hL (fun j o ho=>(bS hq ho).1) hr;obtain ⟨f1,f2⟩:=full L hL hall;rw [f1,f2] at F;rw [f2] at hK;exact ⟨rfl,κ1,φ1,F,hR,hK⟩
    ·obtain ⟨o,ho,hjn,hlj,gY⟩:=mem_ready hj;obtain ⟨R,Fj,v,u,c,e,k1,k2,k3,k4,kc,ke,k5,k6,k7⟩:=hat j o (by simpa using ho);obtain ⟨s1,s2⟩:=bS hq ho
     have ou:L.getD j false=false:=by
      have:j < L.size:=by omega
      simp [Array.getD,this] at hlj ⊢;exact hlj
     have same:∀d,d∈looks o ops→bK ops s.R R' L d=R d:=by
      intro d hd;by_cases hw:∃(i:Nat) (p:Oper),ops[i]? = some p∧p.dst=some d
      ·obtain ⟨i,p,hi,hp⟩:=hw;rcases (s2 i p d hi hp).2 hd with ⟨hij,ed,he1,he2,qY⟩ | ⟨hij,ed,he1,he2,qY⟩
       ·have Oh:L.getD i false=true:=by rw [←he2];exact gY ed he1 qY
        unfold bK;rw [if_pos ⟨i,p,hi,hp,Oh⟩];exact (k7 i p d hij (by simpa using hi) hp).symm
       ·have only:∀(i' : Nat) (p' : Oper),ops[i']? = some p'→p'.dst=some d→i'=i:=fun i' p' h1 h2=>hnd i' i p' p d (by simpa using h1) (by simpa using hi) h2 hp;unfold bK
        rw [if_neg (fun ⟨i',p',h1,h2,h3⟩=>by
         have e:=only i' p' h1 h2;subst e;rw [h1] at hi;injection hi with hi;subst hi
         have:=hcl i' p' h1 h3 ed he1 qY
         rw [he2,ou] at this;cases this),hs]
        exact (k6 d (fun i' p' h0 h1 h2=>by have:=only i' p' (by simpa using h1) h2;omega)).symm
      ·unfold bK;rw [if_neg (fun ⟨i,p,hi,hp,_⟩=>hw ⟨i,p,hi,hp⟩),hs];exact (k6 d (fun i p _ hp vW=>hw ⟨i,p,by simpa using hp,vW⟩)).symm
     have BD:guardOf (bK ops s.R R' L) ops o=guardOf R ops o:=by
      unfold guardOf;cases hgu:o.guard with
      | none=>rfl
      | some p=>
        obtain ⟨g,want⟩:=p;simp only;cases hog:ops[g]? with
        | none=>rfl
        | some gg=>
          simp only;cases hgd:gg.dst with
          | none=>rfl
          | some d=>
            simp only;rw [same d (by simp only [looks,List.mem_append];right;rw [hgu];simp only [hog,hgd];simp)]
     have Kv:∀x∈o.op.operands,aH R x=aH (bK ops s.R R' L) x:=fun x hx=>kN fun d hd=>by
      subst hd;refine (same d ?_).symm;simp only [looks,List.mem_append,List.mem_filterMap];left;exact ⟨.tmp d,by simpa using hx,rfl⟩
     have rowAt:∀(x:Nat) (u' : List (Nat×au)),us[x]? = some u'→∃tx,rs[x]? = some (tx,bD u')∧∀i∈bD u',i∈tx:=by
      intro x u' hu';have hx:=(List.getElem?_eq_some_iff.1 hu').1;have hox:ops.toList[x]? = some ops.toList[x]:=by simp [show x < ops.size by omega]
      obtain ⟨_,F',_,u2,_,_,_,g2,g3,_⟩:=hat x _ hox;rw [hu'] at g2;injection g2 with g2;subst g2;exact ⟨_,g3,fun i hi=>by simp [hi]⟩
     have before:∀(x:Nat) (u' : List (Nat×au)) (i:Nat),x < j→us[x]? = some u'→i∈bD u'→i∈(Fj++bA s.n z o::(bA s.n z o+1)::bD u)→L.getD x false=true:=by
      intro x u' i hxj hu' hi ht;obtain ⟨tx,g1,_⟩:=rowAt x u' hu'
      exact (Ku j x (lF hrows k3 g1 hxj (.inl (wH hi ht)))).ready (L:=fun i=>L.getD i false) hcl (fun o' ho' e he hb=>by
       rw [ho] at ho';injection ho' with ho';subst ho';exact gY e he hb)
     have after:∀(x:Nat) (u' : List (Nat×au)) (i:Nat),j < x→us[x]? = some u'→i∈bD u'→i∈(Fj++bA s.n z o::(bA s.n z o+1)::bD u)→L.getD x false=false:=by
      intro x u' i hxj hu' hi ht;obtain ⟨tx,g1,_⟩:=rowAt x u' hu';cases hlx:L.getD x false with
      | false=>rfl
      | true=>
        have:=(Ku x j (lF hrows g1 k3 hxj (.inr (wH hi ht)))).done (L:=fun i=>L.getD i false) hcl hlx
        rw [ou] at this;cases this
     have agree:∀i,i∈(Fj++bA s.n z o::(bA s.n z o+1)::bD u)→gM (fun i=>L.getD i false) 0 us s.O i=(us.take j).foldl aQ O0 i:=by
      intro i hi;have e1:=mQ us 0 j O0;rw [←e1,hsO];refine kQ us 0 _ _ rfl (fun x u' hu' hk=>?_);rw [Nat.zero_add,Nat.zero_add];rcases Nat.lt_trichotomy x j with h | h | h
      ·rw [before x u' i h hu' hk hi];simp [h]
      ·subst h;rw [ou];simp
      ·rw [after x u' i h hu' hk hi]
       have:¬x < j:=by omega
       simp [this]
     have rz:∀i,i∈(bA s.n z o::(bA s.n z o+1)::bD u)→gM (fun i=>L.getD i false) 0 us s.O i=mR Fj ((us.take j).foldl aQ O0) i:=by
      intro i hi;rw [agree i (List.mem_append.2 (.inr hi))];cases hF:(Fj.any fun j=>Nat.beq j i) with
      | true=>rw [sK hF]
      | false=>
        rw [pW hF]
        have:=List.all_eq_true.1 k4 i hi
        rw [hF] at this;simpa using this
     have hev:qp cf ops ov (bK ops s.R R' L) (gM (fun i=>L.getD i false) 0 us s.O) (bA s.n z o) o=some (v,u,c,e):=by
      refine zL k1 BD Kv (fun i p hp=>?_) (rz _ (by simp)) (rz _ (by simp)) (fun p hp=>rz _ (by simp [bD];exact .inr (.inr ⟨p.2,hp⟩)));cases hF:(Fj.any fun j=>Nat.beq j i) with
      | true=>
        rw [sK hF] at hp;rw [agree i (List.mem_append.2 (.inl (GN hF)))];exact hp
      | false=>rw [pW hF] at hp;cases hp
     refine GK hcf F hev (fun x hx=>hc x (kc x hx)) (fun x hx=>he x (ke x hx)) ho (bV hg) (fun a' w' κ' φ' g1 g2 g3=>?_)
     have hget:∀i,(L.setIfInBounds j true).getD i false=if i=j then true else L.getD i false:=by
      intro i;simp only [Array.getD_eq_getD_getElem?,Array.getElem?_setIfInBounds];by_cases e:i=j
      ·subst e;have:i < L.size:=by omega
       simp [this]
      ·have:¬j=i:=fun h=>e h.symm
       simp [e,this]
     have hset:iI (bK ops s.R R' L) o.dst v=bK ops s.R R' (L.setIfInBounds j true):=by
      funext d;cases hd:o.dst with
      | none=>
        simp only [iI];unfold bK;congr 1;apply propext;constructor
        ·rintro ⟨i,p,h1,h2,h3⟩
         exact ⟨i,p,h1,h2,by rw [hget];split;rfl;exact h3⟩
        ·rintro ⟨i,p,h1,h2,h3⟩
         rw [hget] at h3;by_cases e:i=j
         ·subst e;rw [ho] at h1;injection h1 with h1;subst h1;rw [hd] at h2;cases h2
         ·rw [if_neg e] at h3;exact ⟨i,p,h1,h2,h3⟩
      | some d0=>
        simp only [iI,iP];by_cases e0:d=d0
        ·subst e0;rw [if_pos rfl];unfold bK;rw [if_pos ⟨j,o,ho,hd,by rw [hget];simp⟩,k5 d hd]
        ·rw [if_neg e0];unfold bK;congr 1;apply propext;constructor
         ·rintro ⟨i,p,h1,h2,h3⟩
          exact ⟨i,p,h1,h2,by rw [hget];split;rfl;exact h3⟩
         ·rintro ⟨i,p,h1,h2,h3⟩
          rw [hget] at h3;by_cases e:i=j
          ·subst e;rw [ho] at h1;injection h1 with h1;subst h1;rw [hd] at h2;injection h2 with h2;exact absurd h2.symm e0
          ·rw [if_neg e] at h3;exact ⟨i,p,h1,h2,h3⟩
     have eY:gM (fun i=>(L.setIfInBounds j true).getD i false) 0 us s.O=aQ (gM (fun i=>L.getD i false) 0 us s.O) u:=by
      refine oC us 0 j u s.O k2 (by rw [Nat.zero_add];exact ou) (by rw [Nat.zero_add,hget];simp) (fun x hx=>by rw [hget,if_neg (by omega)]) (fun x u' hx hu' hl i hi hi'=>?_);rw [Nat.zero_add] at hl;rw [after x u' i hx hu' hi' (by simp [hi])] at hl;cases hl
     have hc2:=count_set (L:=L) (i:=j) (by omega) hlj;refine ih (L.setIfInBounds j true) κ' φ' w' a' (by simpa using hL) (by omega) (fun i o' ho' hi e' he' hb'=>?_) ?_ (hR.trans g2) ?_
     ·rw [hget] at hi ⊢;by_cases ej:e'.on=j
      ·rw [if_pos ej]
      ·rw [if_neg ej];by_cases ei:i=j
       ·subst ei;rw [ho] at ho';injection ho' with ho';subst ho';exact gY e' he' hb'
       ·rw [if_neg ei] at hi;exact hcl i o' ho' hi e' he' hb'
     ·rw [←hset,eY];exact g1
     ·rw [eY];exact hK.trans (g3.m m)
 have e0:∀i,(Array.replicate ops.size false).getD i false=false:=fun i=>by
  by_cases hi:i < ops.size<;>simp [Array.getD,hi]
 have m0:gM (fun i=>(Array.replicate ops.size false).getD i false) 0 us s.O=s.O:=pR us 0 s.O (fun j _=>e0 _)
 have r0:bK ops s.R R' (Array.replicate ops.size false)=s.R:=by
  funext d;unfold bK;rw [if_neg]
  rintro ⟨i,o,_,_,h3⟩
  rw [e0] at h3;cases h3
 refine main ops.size (Array.replicate ops.size false) κ φ w a (by simp) (by simp [List.countP_replicate]) (fun j o _ hj=>by rw [e0] at hj;cases hj) ?_ (Fr.refl _ _) ?_
 ·rw [m0,r0];exact F0
 ·rw [m0];exact mZ.refl _ _ _
def GC (P:Program) (f:FuncId) (args:List RV) (O:Tab) (r:RV) (O' : Tab):Prop:=
 ∀(κ:bn) (φ:bG) (w:World) (vs:Array Value),(∀i,OR κ φ O w.heap i (O i))→Ay κ w→vs.size=args.length→
  (∀(i:Nat) (x:RV) (v:Value),args[i]? = some x→vs[i]? = some v→bB κ φ O w.heap x v)→
  Calls P f vs w fun e w'=>∃v κ' φ',e = .returned v∧bB κ' φ' O' w'.heap r v∧(∀i,OR κ' φ' O' w'.heap i (O' i))∧Ay κ' w'∧Fr κ w κ' w'∧Kp φ O φ' O'
def lY (P:Program) (call:lI):Prop:=∀g args O nx r O' nx',call g args O nx=some (r,O',nx')→GC P g args O.fn r O'.fn
theorem dG.V6 {κ κ' : bn} {φ φ' : bG} {O O' : Tab} {w w' : World} (R:Fr κ w κ' w') (K:Kp φ O φ' O'):dG κ φ O w.heap κ' φ' O' w'.heap:=⟨R.dA,R.wu,K.phi,K.len⟩
theorem rH:∀(u:List (Nat×au)) (O:OT),nH u=true→(pY O u).fn=aQ O.fn u
 | [],_,_=>rfl
 | (i,p)::r,O,h=>by
   simp only [nH] at h;cases hb:Nat.ble i 1048575 with
   | false=>rw [hb] at h;simp at h
   | true=>
     rw [hb] at h;simp only [cond_true] at h;have hi:=Nat.le_of_ble_eq_true hb;simp only [pY];rw [rH r _ h,OT.rE (by omega)];rfl
noncomputable def lZ (n:Nat) (R:RT) (O:OT):bP:={ n:=n,R:=R.fn,O:=O.fn,df:=Df.df }
theorem av.jm {κ:bn} {φ:bG} {w:World} {n:Nat} {R:RT} {O:Tab} {a:Act} (F:av κ φ w { n:=n,R:=R.fn,O:=O,df:=Df.df } a) {dst:Option Nat} {rv:RV} {v:Value}
 (hd:∀d,dst=some d→d < n∧d < 512) (hr:bB κ φ O w.heap rv v):av κ φ w { n:=n,R:=(Am.jm R dst rv).fn,O:=O,df:=Df.df } (a.put dst v):=by
 cases dst with
 | none=>exact F.wD v
 | some d=>
   obtain ⟨h1,h2⟩:=hd d rfl
   have:=F.put (d:=d) h1 hr
   simp only [Am.jm,RT.rE h2];exact this
theorem sQ {R:RT} {dst:Option Nat} {v:RV} (hd:∀d,dst=some d→d < 512):(jm R dst v).fn=iI R.fn dst v:=by
 cases dst with
 | none=>rfl
 | some d=>simp only [jm,RT.rE (hd d rfl)];rfl
theorem zR {R R' : RT} {O O' : OT} {nx nx' : Nat} {dst:Option Nat} {r:Option (bX×Bool)} (h:xQ R O nx dst r=some (R',O',nx')) :
 ∃res un,r=some (res,un)∧(∀c∈res.conds,c=true)∧R'=jm R dst res.val∧O'.fn=aQ O.fn res.upd:=by
 unfold xQ at h;cases r with
 | none=>simp at h
 | some p=>
   obtain ⟨res,un⟩:=p;obtain ⟨v,u,c⟩:=res;simp only at h;cases hc:allT c with
   | false=>rw [hc] at h;simp at h
   | true=>
     rw [hc] at h;simp only [cond_true] at h;cases u with
     | nil=>
       simp only [Option.some.injEq,Prod.mk.injEq] at h;obtain ⟨rfl,rfl,rfl⟩:=h;exact ⟨_,_,rfl,kH hc,rfl,rfl⟩
     | cons p u=>
       simp only at h;cases hs:nH (p::u) with
       | false=>rw [hs] at h;simp at h
       | true=>
         rw [hs] at h;simp only [cond_true,Option.some.injEq,Prod.mk.injEq] at h;obtain ⟨rfl,rfl,rfl⟩:=h;exact ⟨_,_,rfl,kH hc,rfl,rH _ _ hs⟩
theorem BN {κ:bn} {φ:bG} {w:World} {a:Act} {cf:dK} (hcf:jh P cf) {has:Nat→Bool} {call:lI} (hcall:lY P call) {ops:Array Oper} {n nx nx' : Nat} {R R' : RT} {O O' : OT} {o:Oper} (F:av κ φ w (lZ n R O) a)
 (h:GU cf has call ops R O nx o=some (R',O',nx')) {i:Nat} (hi:ops[i]? = some o)
 (hn:∀(j:Nat) (gg:Oper) (t:Nat),ops[j]? = some gg→gg.dst=some t→t < n) (hn2:n≤512) {Q:Exit→Act→World→Prop} {K:Act→World→Prop}
 (hk:∀a' w' κ' φ',av κ' φ' w' (lZ n R' O') a'→Fr κ w κ' w'→Kp φ O.fn φ' O'.fn→K a' w'):wpOp P ops Q i K a w:=by
 have hdst:∀d,o.dst=some d→d < n∧d < 512:=fun d hd=>⟨hn i o d hi hd,Nat.lt_of_lt_of_le (hn i o d hi hd) hn2⟩;unfold GU at h;unfold wpOp;rw [hi];simp only
 have gen:∀(r:Option (bX×Bool)),xQ R O nx o.dst r=some (R',O',nx')→
  (∀res un,r=some (res,un)→(∀c∈res.conds,c=true)→∀(next:Act→World→Prop),
    (∀v w' κ' φ',av κ' φ' w' { lZ n R O with O:=aQ O.fn res.upd } a→bB κ' φ' (aQ O.fn res.upd) w'.heap res.val v→Fr κ w κ' w'→Kp φ O.fn φ' (aQ O.fn res.upd)→next (a.put o.dst v) w')→o.wp P a w next Q)→o.wp P a w K Q:=by
  intro r hr hw;obtain ⟨res,un,e1,e2,e3,e4⟩:=zR hr;refine hw res un e1 e2 K (fun v w' κ' φ' g1 g2 g3 g4=>?_);refine hk _ w' κ' φ' ?_ g3 (by rw [e4];exact g4);subst e3;unfold lZ;rw [e4];exact av.jm g1 hdst g2
 split at h
 ·simp at h
 ·rename_i hg;rw [fE (s:=lZ n R O) F hg (fun j want gg t _ hj ht=>hn j gg t hj ht)];simp only [Bool.false_eq_true,if_false];simp only [Option.some.injEq,Prod.mk.injEq] at h;obtain ⟨rfl,rfl,rfl⟩:=h;exact hk _ _ κ φ (av.jm F hdst .und) (Fr.refl _ _) (Kp.refl _ _)
 ·rename_i hg;rw [fE (s:=lZ n R O) F hg (fun j want gg t _ hj ht=>hn j gg t hj ht)];simp only [if_true];left;split at h
  ·rename_i x hop;simp only [Option.some.injEq,Prod.mk.injEq] at h;obtain ⟨rfl,rfl,rfl⟩:=h;exact dX (v:=a.eval x) (by simp [execOp,hop]) (hk _ w κ φ (av.jm F hdst (aZ F x)) (Fr.refl _ _) (Kp.refl _ _))
  ·rename_i x hop;simp only [Option.some.injEq,Prod.mk.injEq] at h;obtain ⟨rfl,rfl,rfl⟩:=h;exact dX (v:=a.eval x) (by simp [execOp,hop]) (hk _ w κ φ (av.jm F hdst (aZ F x)) (Fr.refl _ _) (Kp.refl _ _))
  ·rename_i c hop;split at h
   ·rename_i f yS;split at h
    ·rename_i g first caps hrf;cases hok:cf.dP g with
     | false=>rw [hok] at h;simp at h
     | true=>
       rw [hok] at h;simp only [cond_true] at h;have rf:=aZ F f;have YO : aH (lZ n R O).R f = .fM (.func g) first caps:=hrf;rw [YO] at rf;generalize hev:a.eval f=fv at rf;cases rf with
       | fM h1 h2 h3 h4=>
         rename_i fa ca;have hargs:=lC F c.args
         have vI:(execOp a.eval o).run P w = .ok (.enter g (fa++c.args.map a.eval++ca)) w:=by
          simp only [execOp,hop,resolve,yS,hev,Deferred.ofValue,Sem.run_bind,Sem.run_pure,Result.andThen_ok,invoke];exact sj (hcf.call g hok) _ w
         have hsz:(fa++c.args.map a.eval++ca).size=(first++c.args.toList.map (aH R.fn)++caps).length:=by simp;omega
         have hrel:∀(i:Nat) (x:RV) (v:Value),(first++c.args.toList.map (aH R.fn)++caps)[i]? = some x→(fa++c.args.map a.eval++ca)[i]? = some v→bB κ φ O.fn w.heap x v:=by
          intro i x v hx hv;by_cases k1:i < first.length
          ·rw [List.append_assoc,List.getElem?_append_left k1] at hx;rw [Array.append_assoc,Array.getElem?_append_left (by omega)] at hv;exact h3 i x v hx hv
          ·rw [List.append_assoc,List.getElem?_append_right (by omega)] at hx;rw [Array.append_assoc,Array.getElem?_append_right (by omega)] at hv;by_cases k2:i-first.length < c.args.size
           ·rw [List.getElem?_append_left (by simpa using k2)] at hx;rw [Array.getElem?_append_left (by simp;omega)] at hv;exact hargs _ x v hx (by rw [←h1];exact hv)
           ·rw [List.getElem?_append_right (by simp;omega)] at hx;rw [Array.getElem?_append_right (by simp;omega)] at hv;refine h4 _ x v hx ?_;rw [←hv];congr 1;simp;omega
         split at h
         ·rename_i res hres;refine gen _ h (fun res' un e1 e2 next hnext=>?_);injection e1 with e1;injection e1 with e1 _;subst e1
          have hres' : gJ cf.K (cf.cK g) O.fn nx g (first++c.args.toList.map (aH R.fn)++caps)=some res:=by
           cases hh:has g with
           | true=>rw [hh] at hres;exact hres
           | false=>rw [hh] at hres;cases hres
          have Fa:=xD (s:=lZ n R O) F hcf.K hres' e2 hsz hrel;unfold Oper.wp;rw [vI];refine Fa.mono ?_
          rintro e w' ⟨v,κ',φ',rfl,g1,g2,g3,g4⟩
          exact hnext v w' κ' φ' g1 g2 g3 g4
         ·split at h
          ·rename_i v O1 y8 hcl;simp only [Option.some.injEq,Prod.mk.injEq] at h;obtain ⟨rfl,rfl,rfl⟩:=h;have hG:=hcall _ _ _ _ _ _ _ hcl κ φ w _ F.objs F.bnd hsz hrel;unfold Oper.wp;rw [vI];refine hG.mono ?_
           rintro e w' ⟨v',κ',φ',rfl,g1,g2,g3,g4,g5⟩
           have M:=dG.V6 g4 g5;have F' : av κ' φ' w' { n:=n,R:=R.fn,O:=O1.fn,df:=Df.df } a:=⟨fun t=>(F.regs t).mono M,g2,g3,F.n,F.df.mono M⟩;exact hk _ w' κ' φ' (av.jm F' hdst g1) g4 g5
          ·simp at h
    ·simp at h
   ·exact gen _ h (fun res un e1 e2 next hnext=>Dn hcf F e1 e2 hnext)
  ·exact gen _ h (fun res un e1 e2 next hnext=>Dn hcf F e1 e2 hnext)
theorem GV {cf:dK} (hcf:jh P cf) {has:Nat→Bool} {call:lI} (hcall:lY P call) {ops:Array Oper} {n:Nat} (hn2:n≤512) {Q:Exit→Act→World→Prop}:∀(l:List Oper) (k:Nat) {κ:bn} {φ:bG} {w:World} {a:Act} {R R' : RT} {O O' : OT} {nx nx' : Nat},
 av κ φ w (lZ n R O) a→Fw cf has call ops l R O nx=some (R',O',nx')→cO n ops=true→(∀i o,l[i]? = some o→ops[k+i]? = some o)→
 (∀a' w' κ' φ',av κ' φ' w' (lZ n R' O') a'→Fr κ w κ' w'→Kp φ O.fn φ' O'.fn→Q .normal a' w')→wpOps P ops Q (List.range' k l.length) a w
 | [],k,κ,φ,w,a,R,R',O,O',nx,nx',F,h,hg,hl,hk=>by
   simp only [Fw,Option.some.injEq,Prod.mk.injEq] at h;obtain ⟨rfl,rfl,rfl⟩:=h;exact hk a w κ φ F (Fr.refl _ _) (Kp.refl _ _)
 | o::r,k,κ,φ,w,a,R,R',O,O',nx,nx',F,h,hg,hl,hk=>by
   simp only [Fw] at h;split at h
   ·rename_i R1 O1 y8 h1;have hk0:ops[k]? = some o:=by simpa using hl 0 o rfl
    simp only [List.length_cons,List.range'_succ];rw [wpOps_cons];refine BN hcf hcall F h1 hk0 (bV hg) hn2 (fun a' w' κ' φ' g1 g2 g3=>?_);exact GV hcf hcall hn2 r (k+1) g1 h hg (fun i o' hi=>by have:=hl (i+1) o' (by simpa using hi);rw [←this];congr 1;omega) (fun a2 w2 κ2 φ2 k1 k2 k3=>hk a2 w2 κ2 φ2 k1 (g2.trans k2) (g3.trans k3))
   ·simp at h
theorem GX {cf:dK} {ops:Array Oper} {R:Nat→RV} {O:Tab} {o:Oper} {v:RV} {c:List Bool} {e:List (RV×RV)} (h:jU cf ops [] R O o=some (v,c,e)):e=[]:=by
 unfold jU at h;split at h
 ·cases h
 ·injection h with h;injection h with h1 h;injection h with h2 h3;exact h3.symm
 ·split at h
  ·cases h
  ·rename_i res un hex;cases hu:res.upd.isEmpty with
   | false=>rw [hu] at h;simp at h
   | true=>
     rw [hu] at h;simp only [cond_true,uE] at h;split at h<;>(injection h with h;injection h with h1 h;injection h with h2 h3;exact h3.symm)
theorem KL {cf:dK} {ops:Array Oper} {O:Tab}:∀(l:List Oper) (R R' : RT) (cs:List Bool),(∀o∈l,∀d,o.dst=some d→d < 512)→vQ cf ops O l R=some R'→(∀c∈cs,c=true)→
 ∃cs',sP cf ops [] O l R.fn cs []=some (R'.fn,cs',[])∧∀c∈cs',c=true
 | [],R,R',cs,_,h,hc=>by simp only [vQ,Option.some.injEq] at h;subst h;exact ⟨cs,rfl,hc⟩
 | o::r,R,R',cs,hd,h,hc=>by
   simp only [vQ] at h;cases h1:jU cf ops [] R.fn O o with
   | none=>rw [h1] at h;simp at h
   | some p=>
     obtain ⟨v,c,e⟩:=p;rw [h1] at h;simp only at h;have he:=GX h1;subst he;cases hcc:allT c with
     | false=>rw [hcc] at h;simp at h
     | true=>
       rw [hcc] at h;simp only [cond_true] at h;simp only [sP,h1];rw [←sQ (hd o (by simp))]
       exact KL r _ R' (cs++c) (fun o ho=>hd o (by simp [ho])) h (fun x hx=>by
        rcases List.mem_append.1 hx with hx | hx
        ·exact hc x hx
        ·exact kH hcc x hx)
theorem Oo {cf:dK} {ops:Array Oper} {R:Nat→RV} {O:Tab} {sl:Nat} {o:Oper} {v:RV} {u:List (Nat×au)} {c:List Bool} {e:List (RV×RV)} (h:qp cf ops [] R O sl o=some (v,u,c,e)):e=[]:=by
 unfold qp at h;split at h
 ·cases h
 ·injection h with h;injection h with h1 h;injection h with h2 h;injection h with h3 h4;exact h4.symm
 ·split at h
  ·cases h
  ·simp only [uE] at h;split at h<;>(injection h with h;injection h with h1 h;injection h with h2 h;injection h with h3 h4;exact h4.symm)
theorem KM {cf:dK} {ops:Array Oper} {n z:Nat}:∀(l:List Oper) (R R' : RT) (O O' : OT) (rs rs' : List (List Nat×List Nat)) (cs:List Bool),(∀o∈l,∀d,o.dst=some d→d < 512)→
 vE cf ops n z l R O rs=some (R',O',rs')→(∀c∈cs,c=true)→∃cs',qN cf ops [] n z l R.fn O.fn cs [] rs=some (R'.fn,O'.fn,cs',[],rs')∧∀c∈cs',c=true
 | [],R,R',O,O',rs,rs',cs,_,h,hc=>by
   simp only [vE,Option.some.injEq,Prod.mk.injEq] at h;obtain ⟨rfl,rfl,rfl⟩:=h;exact ⟨cs,rfl,hc⟩
 | o::r,R,R',O,O',rs,rs',cs,hd,h,hc=>by
   simp only [vE] at h;cases h1:qp cf ops [] R.fn (mR (foot R.fn O.fn o) O.fn) (bA n z o) o with
   | none=>rw [h1] at h;simp at h
   | some p=>
     obtain ⟨v,u,c,e⟩:=p;rw [h1] at h;simp only at h;have he:=Oo h1;subst he;cases hcc:(allT c&&nH u&&kR O.fn (foot R.fn O.fn o) (bA n z o::(bA n z o+1)::bD u)) with
     | false=>rw [hcc] at h;simp at h
     | true=>
       rw [hcc] at h;simp only [cond_true] at h;simp only [Bool.and_eq_true] at hcc;obtain ⟨⟨c1,c2⟩,c3⟩:=hcc;simp only [qN,h1,c3,cond_true];rw [←sQ (hd o (by simp)),←rH u O c2]
       exact KM r _ R' _ O' _ rs' (cs++c) (fun o ho=>hd o (by simp [ho])) h (fun x hx=>by
        rcases List.mem_append.1 hx with hx | hx
        ·exact hc x hx
        ·exact kH c1 x hx)
theorem zS:∀(l:List au) (k:Nat) (O:OT),k+l.length≤1048576→(zP k l O).fn=fun i=>if i < k then O.fn i else if i < k+l.length then l[i-k]? else O.fn i
 | [],k,O,_=>by funext i;simp only [zP,List.length_nil,Nat.add_zero];split<;>rfl
 | p::r,k,O,h=>by
   simp only [List.length_cons] at h;simp only [zP];rw [zS r (k+1) _ (by omega),OT.rE (by omega)];funext i;simp only [bq,List.length_cons];by_cases h1:i < k
   ·rw [if_pos (by omega),if_pos h1,if_neg (by omega)]
   ·rw [if_neg h1];by_cases h2:i=k
    ·subst h2;rw [if_pos (by omega),if_pos rfl,if_pos (by omega),Nat.sub_self];rfl
    ·rw [if_neg (by omega),if_neg h2];by_cases h3:i < k+(r.length+1)
     ·rw [if_pos (by omega),if_pos h3,show i-k=(i-(k+1))+1 by omega];rfl
     ·rw [if_neg (by omega),if_neg h3]
theorem KN (l:List au) (h:l.length≤4000):(zP 0 l OT.nil).fn=aN l:=by
 rw [zS l 0 _ (by omega),OT.Fv];funext i;simp only [Nat.not_lt_zero,if_false,Nat.zero_add,Nat.sub_zero,aN];split
 ·rfl
 ·rw [List.getElem?_eq_none (by omega)]
end Go.Am
namespace Go.Am
set_option linter.unusedSectionVars false
variable {P:Program} [Gl]
theorem Oq {f:FuncId} {args:List RV} {objs os:List au} {r r' : RV} {O' : Tab} (hG:GC P f args (aN objs) r O') (uK:collect objs.length r O'=some (r',os)) :
 C P f args objs (fun r2 o2=>r2=r'∧o2=os):=by
 intro κ φ w vs h1 h2 h3 h4;refine (hG κ φ w vs h1 h2 h3 h4).mono ?_
 rintro e w' ⟨v,κ',φ',rfl,hr,Dh,hbd,hfr,K'⟩
 unfold collect at uK;simp only at uK;generalize hps:List.range objs.length++(reach O' 400 (r.refs 6++(List.range objs.length).flatMap fun i=>rZ (O' i)) []).filter (fun i=>Nat.ble objs.length i)=ps at uK;cases hnd:nodupB ps with
 | false=>rw [hnd] at uK;simp at uK
 | true=>
   rw [hnd] at uK;simp only [cond_true] at uK;split at uK
   ·rename_i r2 os2 hr1 ho1
    ·simp only [Option.some.injEq,Prod.mk.injEq] at uK;obtain ⟨rfl,rfl⟩:=uK;obtain ⟨o1,o2⟩:=dJ _ ps os2 ho1
     let κ2:bn:=fun b=>match κ' b with
      | .dA=>.dA
      | .own i=>match idx i ps 0 with | some j=>.own j | none=>.kr
      | .kr=>.kr
     let φ2:bG:=fun j=>match ps[j]? with | some i=>φ' i | none=>.un
     have nP:∀(i j:Nat),idx i ps 0=some j→ps[j]? = some i:=fun i j h=>by have:=(jS i ps 0 j h).2;simpa using this
     have nZ:∀(i j:Nat),ps[j]? = some i→idx i ps 0=some j:=fun i j h=>by
      obtain ⟨k,hk⟩:=jJ i ps 0 (List.mem_iff_getElem?.2 ⟨j,h⟩);rw [hk,iZ ps hnd k j i (nP i k hk) h]
     have iE:∀b,κ' b = .dA→κ2 b = .dA:=fun b hb=>by simp only [κ2,hb]
     have hφ2:∀(i j:Nat),idx i ps 0=some j→φ' i≠.un→φ2 j=φ' i:=fun i j h _=>by simp only [φ2,nP i j h]
     have vw:∀(j i:Nat),ps[j]? = some i→∃p q,O' i=some p∧p.ren (fun i=>idx i ps 0)=some q∧os2[j]? = some q:=by
      intro j i h;have hlt:=(List.getElem?_eq_some_iff.1 h).1;have hlt2:j < os2.length:=by omega
      have hq:os2[j]? = some os2[j]:=by simp [hlt2]
      have:=o2 j i _ h hq
      cases e:O' i with
      | none=>simp only [e] at this;cases this
      | some p=>simp only [e] at this;exact ⟨p,_,rfl,this,hq⟩
     have mE:∀(i j n:Nat),idx i ps 0=some j→φ' i≠.un→au.cB (aN os2 j)=some n→au.cB (O' i)=some n:=by
      intro i j n h _ hn;obtain ⟨p,q,e1,e2,e3⟩:=vw j i (nP i j h);rw [e1,←BF e2];simp only [aN,e3] at hn;exact hn
     have first:∀i,i < objs.length→ps[i]? = some i:=fun i hi=>by
      rw [←hps,List.getElem?_append_left (by simpa using hi)];simp [hi]
     have Qo:∀i,φ i≠.un→i < objs.length:=fun i hi=>by
      rcases Nat.lt_or_ge i objs.length with h | h
      ·exact h
      ·exfalso;apply hi
       have:=h1 i
       have e:aN objs i=none:=by simp only [aN];exact List.getElem?_eq_none h
       rw [e] at this;exact this
     refine ⟨v,r2,os2,κ2,φ2,rfl,⟨rfl,rfl⟩,bB.ren (ρ:=fun i=>idx i ps 0) iE hφ2 mE 6 _ _ _ hr1 hr,fun j=>?_,hbd.same (fun b e=>by simp only [κ2,e]) (fun b e=>by simp only [κ2,e]),?_,
      hfr.trans ⟨Nat.le_refl _,fun b hb=>⟨iE b hb,rfl⟩,fun b _ hb=>⟨by simp only [κ2,hb],rfl⟩,fun _ c _ fz hc=>⟨c,fz,hc,rfl⟩,rfl,rfl⟩,⟨fun i hi=>?_,fun i n hi hn=>?_⟩⟩
     ·cases hj:ps[j]? with
      | none=>
        have:os2[j]? = none:=by rw [List.getElem?_eq_none_iff] at hj ⊢;omega
        simp only [aN,this]
        show φ2 j = .un
        simp only [φ2,hj]
      | some i=>
        obtain ⟨p,q,e1,e2,e3⟩:=vw j i hj;simp only [aN,e3];have ho:=Dh i;rw [e1] at ho;exact OR.ren (ρ:=fun i=>idx i ps 0) iE hφ2 mE (nZ i j hj) (fun b hb=>by simp only [κ2,hb,nZ i j hj]) e2 ho
     ·rw [o1,←hps];simp
     ·simp only [φ2,first i (Qo i hi)];exact K'.phi i hi
     ·have hlt:=Qo i hi;have h2' : φ' i≠.un:=by rw [K'.phi i hi];exact hi
      exact K'.len i n hi (mE i i n (nZ i i (first i hlt)) h2' hn)
   ·simp at uK
theorem GY {call:lI} (h:lY P call):aW P (IZ call):=by
 intro f args objs r bJ c hk _;unfold IZ at hk;cases hb:Nat.ble objs.length 4000 with
 | false=>rw [hb] at hk;simp at hk
 | true=>
   rw [hb] at hk;simp only [cond_true] at hk;split at hk
   ·rename_i r1 O1 y8 hcl;split at hk
    ·rename_i r' os uK;simp only [Option.some.injEq,Prod.mk.injEq] at hk;obtain ⟨rfl,rfl,rfl⟩:=hk;have hG:=h _ _ _ _ _ _ _ hcl;rw [KN objs (Nat.le_of_ble_eq_true hb)] at hG;exact Oq hG uK
    ·simp at hk
   ·simp at hk
theorem KO {n:Nat} {ops:Array Oper} (hg:cO n ops=true) (hn:n≤512):∀o∈ops.toList,∀d,o.dst=some d→d < 512:=fun o ho d hd=>by
 obtain ⟨j,hj⟩:=List.mem_iff_getElem?.1 ho;exact Nat.lt_of_lt_of_le (bV hg j o d (by simpa using hj) hd) hn
section
variable [Df]
theorem Fy {cf:dK} (hcf:jh P cf) (eY:P.follows .mixedOrders=true) {has:Nat→Bool} {call:lI} (hcall:lY P call) {n:Nat} (hn:n≤512) {ops:Array Oper} {draw:Bool} {R R' : RT} {O O' : OT} {nx nx' : Nat}
 (h:BL cf has call n ops draw R O nx=some (R',O',nx')) {id:Nat} {k:List It} {m:Nat} {Q:bP→Prop} (hk:WK P m k (lZ n R' O') Q):WK P m (.code (.region id ops draw)::k) (lZ n R O) Q:=by
 unfold BL at h;cases hg:cO n ops with
 | false=>rw [hg] at h;simp at h
 | true=>
   rw [hg] at h;simp only [cond_true] at h;cases draw with
   | false=>
     simp only at h;refine WK.region (s':=lZ n R' O') (fun κ φ w a F=>?_) hk
     have:=GV (Q:=fun e a' w'=>e = .normal∧∃κ' φ',av κ' φ' w' (lZ n R' O') a'∧Fr κ w κ' w'∧mZ m φ (lZ n R O).O φ' (lZ n R' O').O) hcf hcall hn ops.toList 0 F h hg (fun i o hi=>by simpa using hi)
      (fun a' w' κ' φ' g1 g2 g3=>⟨rfl,κ',φ',g1,g2,g3.m m⟩)
     rw [List.range_eq_range'];simpa using this
   | true=>
     simp only at h;cases hq:iB ops with
     | false=>rw [hq] at h;simp at h
     | true=>
       rw [hq] at h;simp only [cond_true] at h;cases ha:ops.toList.all fA with
       | true=>
         rw [ha] at h;simp only [cond_true] at h;split at h
         ·rename_i R1 hr;simp only [Option.some.injEq,Prod.mk.injEq] at h;obtain ⟨rfl,rfl,rfl⟩:=h;obtain ⟨cs,hrun,hcs⟩:=KL (cf:=cf) ops.toList R R1 [] (KO hg hn) hr (by simp);refine WK.sF (s':=lZ n R1 O) eY (fun κ φ w a F=>?_) hk;have key:=Fx (κ0:=κ) (w0:=w) (φ0:=φ) (m:=m) hcf (s:=lZ n R O) (R0:=R.fn) hq hg rfl hrun hcs (by simp)
          refine key ops.size (Array.replicate ops.size false) κ φ w a (by simp) (by simp [List.countP_replicate]) (fun j o hj hl=>by
           exfalso;by_cases hi:j < ops.size<;>simp [Array.getD,hi] at hl) ?_ (Fr.refl _ _) (mZ.refl _ _ _)
          have:bK ops (lZ n R O).R R1.fn (Array.replicate ops.size false)=(lZ n R O).R:=by
           funext d;unfold bK;rw [if_neg]
           rintro ⟨i,o,_,_,h3⟩
           by_cases hi:i < ops.size<;>simp [Array.getD,hi] at h3
          rw [this];exact F
         ·simp at h
       | false=>
         rw [ha] at h;simp only [cond_false] at h;split at h
         ·rename_i R1 O1 rs hr;cases hw:oD rs (y5 ops.toList []) with
          | false=>rw [hw] at h;simp at h
          | true=>
            rw [hw] at h;simp only [cond_true,Option.some.injEq,Prod.mk.injEq] at h;obtain ⟨rfl,rfl,rfl⟩:=h;obtain ⟨cs,hrun,hcs⟩:=KM ops.toList R R1 O O1 [] rs [] (KO hg hn) hr (by simp);refine WK.sF (s':=lZ n R1 O1) eY (fun κ φ w a F=>?_) hk;have YP : jh P { cf with K:=V5 cf.K (IZ call),cK:=fun _=>true,diff:=true }:=⟨hcf.E,KE hcf.K (GY hcall),hcf.call⟩;exact KF (s:=lZ n R O) (R0:=R.fn) (O0:=O.fn) YP hq hg rfl rfl hrun hw hcs (by simp) F
         ·simp at h
end
theorem DT:∀(l:List RV) (k:Nat) (R:RT),k+l.length≤512→(zQ k l R).fn=fun t=>if t < k then R.fn t else if t < k+l.length then (l[t-k]?).getD .bot else R.fn t
 | [],k,R,_=>by funext t;simp only [zQ,List.length_nil,Nat.add_zero];split<;>rfl
 | v::r,k,R,h=>by
   simp only [List.length_cons] at h;simp only [zQ];rw [DT r (k+1) _ (by omega),RT.rE (by omega)];funext t;simp only [iP,List.length_cons];by_cases h1:t < k
   ·rw [if_pos (by omega),if_pos h1,if_neg (by omega)]
   ·rw [if_neg h1];by_cases h2:t=k
    ·subst h2;rw [if_pos (by omega),if_pos rfl,if_pos (by omega),Nat.sub_self];rfl
    ·rw [if_neg (by omega),if_neg h2];by_cases h3:t < k+(r.length+1)
     ·rw [if_pos (by omega),if_pos h3,show t-k=(t-(k+1))+1 by omega];rfl
     ·rw [if_neg (by omega),if_neg h3]
theorem OT.Rc {O:OT} {i:Nat} (h:1048576≤i):O.fn i=none:=by
 unfold OT.fn;rw [Nat.ble_eq_true_of_le h];rfl
end Go.Am
namespace Go.Am
set_option linter.unusedSectionVars false
variable {P:Program} [Gl] [Df]
def KP (an:List Nat) (n j:Nat):Bool:=(List.range n).all fun i=>bif Nat.ble (i+1) j then Kt (an.getD j 0) i else Nat.beq i j||Kt (an.getD i 0) j
def BO (ops:Array Oper):Bool:=let an:=y5 ops.toList [];ops.toList.zipIdx.all fun (o,j)=>fA o||KP an ops.size j
theorem oG {ops:Array Oper} (h:BO ops=true) {j:Nat} {o:Oper} (hj:ops[j]? = some o) (hq:fA o=false) :
 (∀i,i < j→Before ops i j)∧(∀i,i < ops.size→j < i→Before ops j i):=by
 have hm:(o,j)∈ops.toList.zipIdx:=by
  rw [List.mem_zipIdx_iff_getElem?];simpa using hj
 have h1:=List.all_eq_true.1 h _ hm;simp only [hq,Bool.false_or,KP,List.all_eq_true,List.mem_range] at h1;have hsz:=(Array.getElem?_eq_some_iff.1 hj).1;have an:=pU (ops:=ops) ops.toList [] (fun i o hi=>by simpa using hi) (fun i k h=>by simp at h);constructor
 ·intro i hi
  have:=h1 i (by omega)
  rw [Nat.ble_eq_true_of_le (by omega)] at this;simp only [cond_true,Bz] at this;exact an j i this
 ·intro i hi hij
  have:=h1 i hi
  rw [show Nat.ble (i+1) j=false from by cases hb:Nat.ble (i+1) j;rfl;exact absurd (Nat.le_of_ble_eq_true hb) (by omega)] at this
  simp only [cond_false,Bz,Bool.or_eq_true] at this;rcases this with h | h
  ·exact absurd (bQ h) (by omega)
  ·exact an i j h
structure BP (P:Program) (cf:dK) (has:Nat→Bool) (ops:Array Oper) (l:List Oper) (k:Nat) (Rs:Nat→RT) (Os:Nat→OT) (ns:Nat→Nat):Prop where
 at_:∀j o,l[j]? = some o→
  (fA o=true∧Os (k+j+1)=Os (k+j)∧∃v c,jU cf ops [] (Rs (k+j)).fn (Os (k+j)).fn o=some (v,c,[])∧(∀x∈c,x=true)∧Rs (k+j+1)=jm (Rs (k+j)) o.dst v)∨
  (fA o=false∧∃vc,lY P vc∧GU cf has vc ops (Rs (k+j)) (Os (k+j)) (ns (k+j)) o=some (Rs (k+j+1),Os (k+j+1),ns (k+j+1)))
theorem Ot {cf:dK} {has:Nat→Bool} {vc:lI} {ops:Array Oper} {R R' : RT} {O O' : OT} {nx nx' : Nat} {o:Oper} (h:GU cf has vc ops R O nx o=some (R',O',nx')):∃v,R'=jm R o.dst v:=by
 unfold GU at h;split at h
 ·cases h
 ·simp only [Option.some.injEq,Prod.mk.injEq] at h;exact ⟨_,h.1.symm⟩
 ·have gen:∀r,xQ R O nx o.dst r=some (R',O',nx')→∃v,R'=jm R o.dst v:=fun r hr=>by
   obtain ⟨res,un,_,_,e3,_⟩:=zR hr;exact ⟨_,e3⟩
  split at h
  ·simp only [Option.some.injEq,Prod.mk.injEq] at h;exact ⟨_,h.1.symm⟩
  ·simp only [Option.some.injEq,Prod.mk.injEq] at h;exact ⟨_,h.1.symm⟩
  ·split at h
   ·split at h
    ·rename_i g _ _ _;cases hk:cf.dP g with
     | false=>rw [hk] at h;cases h
     | true=>
       rw [hk] at h;simp only [cond_true] at h;split at h
       ·exact gen _ h
       ·split at h
        ·simp only [Option.some.injEq,Prod.mk.injEq] at h;exact ⟨_,h.1.symm⟩
        ·cases h
    ·cases h
   ·exact gen _ h
  ·exact gen _ h
theorem KQ {ops:Array Oper} {R0 R' : Nat→RV} {L:Array Bool} {j:Nat} {o:Oper} {v:RV} (ho:ops[j]? = some o) (hL:L.size=ops.size) (hv:∀d,o.dst=some d→R' d=v) :
 iI (bK ops R0 R' L) o.dst v=bK ops R0 R' (L.setIfInBounds j true):=by
 have hjn:=(Array.getElem?_eq_some_iff.1 ho).1;funext d
 have hget:∀i,(L.setIfInBounds j true).getD i false=if i=j then true else L.getD i false:=by
  intro i;simp only [Array.getD_eq_getD_getElem?,Array.getElem?_setIfInBounds];by_cases e:i=j
  ·subst e;have:i < L.size:=by omega
   simp [this]
  ·have:¬j=i:=fun h=>e h.symm
   simp [e,this]
 cases hd:o.dst with
 | none=>
   simp only [iI];unfold bK;congr 1;apply propext;constructor
   ·rintro ⟨i,p,h1,h2,h3⟩
    exact ⟨i,p,h1,h2,by rw [hget];split;rfl;exact h3⟩
   ·rintro ⟨i,p,h1,h2,h3⟩
    rw [hget] at h3;by_cases e:i=j
    ·subst e;rw [ho] at h1;injection h1 with h1;subst h1;rw [hd] at h2;cases h2
    ·rw [if_neg e] at h3;exact ⟨i,p,h1,h2,h3⟩
 | some d0=>
   simp only [iI,iP];by_cases e0:d=d0
   ·subst e0;rw [if_pos rfl];unfold bK;rw [if_pos ⟨j,o,ho,hd,by rw [hget];simp⟩,hv d hd]
   ·rw [if_neg e0];unfold bK;congr 1;apply propext;constructor
    ·rintro ⟨i,p,h1,h2,h3⟩
     exact ⟨i,p,h1,h2,by rw [hget];split;rfl;exact h3⟩
    ·rintro ⟨i,p,h1,h2,h3⟩
     rw [hget] at h3;by_cases e:i=j
     ·subst e;rw [ho] at h1;injection h1 with h1;subst h1;rw [hd] at h2;injection h2 with h2;exact absurd h2.symm e0
     ·rw [if_neg e] at h3;exact ⟨i,p,h1,h2,h3⟩
theorem KR {cf:dK} (hcf:jh P cf) {has:Nat→Bool} {ops:Array Oper} {n:Nat} (hn:n≤512) (hq:iB ops=true) (hg:cO n ops=true) (hl:BO ops=true)
 {Rs:Nat→RT} {Os:Nat→OT} {ns:Nat→Nat} (hrun:BP P cf has ops ops.toList 0 Rs Os ns) {m:Nat} {κ0:bn} {w0:World} {φ0:bG} :
 ∀(fuel:Nat) (L:Array Bool) (c:Nat) (κ:bn) (φ:bG) (w:World) (a:Act),L.size=ops.size→L.toList.countP (· == false)=fuel→
  (∀(j:Nat) (o:Oper),ops[j]? = some o→L.getD j false=true→∀e∈o.after,Region.binds .any e=true→L.getD e.on false=true)→
  (∀(p:Nat) (o:Oper),ops[p]? = some o→fA o=false→(L.getD p false=true↔p < c))→c≤ops.size→
  av κ φ w { n:=n,R:=bK ops (Rs 0).fn (Rs ops.size).fn L,O:=(Os c).fn,df:=Df.df } a→Fr κ0 w0 κ w→mZ m φ0 (Os 0).fn φ (Os c).fn→
  wpAny P .any ops (fun e a' w'=>e = .normal∧∃κ' φ',av κ' φ' w' (lZ n (Rs ops.size) (Os ops.size)) a'∧Fr κ0 w0 κ' w'∧mZ m φ0 (Os 0).fn φ' (Os ops.size).fn) fuel L a w:=by
 have hdst:∀(j:Nat) (o:Oper) (d:Nat),ops[j]? = some o→o.dst=some d→d < n∧d < 512:=fun j o d hj hd=>⟨bV hg j o d hj hd,Nat.lt_of_lt_of_le (bV hg j o d hj hd) hn⟩
 have hnd:∀(i j:Nat) (p q:Oper) (d:Nat),ops[i]? = some p→ops[j]? = some q→p.dst=some d→q.dst=some d→i=j:=by
  intro i j p q d hi hj hp qo;rcases ((bS hq (j:=j) (o:=q) hj).2 i p d hi hp).1 with h | h
  ·exact h
  ·exact absurd qo h
 have hstep:∀(j:Nat) (o:Oper),ops[j]? = some o→∃v,(Rs (j+1)).fn=iI (Rs j).fn o.dst v:=by
  intro j o hj;rcases hrun.at_ j o (by simpa using hj) with ⟨_,_,v,c,_,_,h⟩ | ⟨_,vc,_,h⟩
  ·simp only [Nat.zero_add] at h;exact ⟨v,by rw [h,sQ (fun d hd=>(hdst j o d hj hd).2)]⟩
  ·simp only [Nat.zero_add] at h;obtain ⟨v,hv⟩:=Ot h;exact ⟨v,by rw [hv,sQ (fun d hd=>(hdst j o d hj hd).2)]⟩
 have keep:∀(k i d:Nat),i+k≤ops.size→(∀(j:Nat) (o:Oper),i≤j→j < i+k→ops[j]? = some o→o.dst≠some d)→(Rs (i+k)).fn d=(Rs i).fn d:=by
  intro k;induction k with
  | zero=>intro i d _ _;rfl
  | succ k ih=>
    intro i d hk hh;have hlt:i+k < ops.size:=by omega
    obtain ⟨v,hv⟩:=hstep (i+k) ops[i+k] (by simp [hlt]);rw [show i+(k+1)=i+k+1 by omega,hv,sO (hh (i+k) _ (by omega) (by omega) (by simp [hlt]))];exact ih i d (by omega) (fun j o h1 h2 h3=>hh j o h1 (by omega) h3)
 have after:∀(j i d:Nat) (o:Oper),i < j→j≤ops.size→ops[i]? = some o→o.dst=some d→(Rs j).fn d=(Rs ops.size).fn d:=by
  intro j i d o hij hj ho hd
  have:=keep (ops.size-j) j d (by omega) (fun j' o' h1 _ h3 h4=>by have:=hnd i j' o o' d ho h3 hd h4;omega)
  rw [show j+(ops.size-j)=ops.size by omega] at this;exact this.symm
 have before:∀(j d:Nat),j≤ops.size→(∀(i:Nat) (o:Oper),i < j→ops[i]? = some o→o.dst≠some d)→(Rs j).fn d=(Rs 0).fn d:=by
  intro j d hj hh
  have:=keep j 0 d (by omega) (fun i o _ h2 h3=>hh i o (by omega) h3)
  simpa using this
 have still:∀(k i:Nat),i+k≤ops.size→(∀(j:Nat) (o:Oper),i≤j→j < i+k→ops[j]? = some o→fA o=true)→Os (i+k)=Os i:=by
  intro k;induction k with
  | zero=>intro i _ _;rfl
  | succ k ih=>
    intro i hk hh;have hlt:i+k < ops.size:=by omega
    have hqk:=hh (i+k) _ (by omega) (by omega) (by simp [hlt]:ops[i+k]? = some ops[i+k]);rcases hrun.at_ (i+k) ops[i+k] (by simp [hlt]) with ⟨_,h,_⟩ | ⟨h,_⟩
    ·simp only [Nat.zero_add] at h;rw [show i+(k+1)=i+k+1 by omega,h];exact ih i (by omega) (fun j o h1 h2 h3=>hh j o h1 (by omega) h3)
    ·rw [hqk] at h;cases h
 have Fz:∀(i j:Nat),i≤ops.size→j≤ops.size→(∀(p:Nat) (o:Oper),ops[p]? = some o→fA o=false→(p < i↔p < j))→Os i=Os j:=by
  intro i j hi hj hh;rcases Nat.le_total i j with h | h
  ·have:=still (j-i) i (by omega) (fun p o h1 h2 h3=>by
    cases hqo:fA o with
    | true=>rfl
    | false=>have:=(hh p o h3 hqo).2 (by omega);omega)
   rw [show i+(j-i)=j by omega] at this;exact this.symm
  ·have:=still (i-j) j (by omega) (fun p o h1 h2 h3=>by
    cases hqo:fA o with
    | true=>rfl
    | false=>have:=(hh p o h3 hqo).1 (by omega);omega)
   rw [show j+(i-j)=i by omega] at this;exact this
 have prefix_:∀(L:Array Bool) (j:Nat),j≤ops.size→(∀i,i < ops.size→(L.getD i false=true↔i < j))→bK ops (Rs 0).fn (Rs ops.size).fn L=(Rs j).fn:=by
  intro L j hj hall;funext d;unfold bK;split
  ·rename_i hex;obtain ⟨i,o,h1,h2,h3⟩:=hex;have hi:=(Array.getElem?_eq_some_iff.1 h1).1;exact (after j i d o ((hall i hi).1 h3) hj h1 h2).symm
  ·rename_i hne;exact (before j d hj (fun i o hi h1 h2=>hne ⟨i,o,h1,h2,(hall i (Array.getElem?_eq_some_iff.1 h1).1).2 hi⟩)).symm
 have fin:∀(L:Array Bool) (c:Nat) (κ:bn) (φ:bG) (w:World) (a:Act),(∀i,i < ops.size→L.getD i false=true)→
  (∀(p:Nat) (o:Oper),ops[p]? = some o→fA o=false→(L.getD p false=true↔p < c))→c≤ops.size→
  av κ φ w { n:=n,R:=bK ops (Rs 0).fn (Rs ops.size).fn L,O:=(Os c).fn,df:=Df.df } a→mZ m φ0 (Os 0).fn φ (Os c).fn→
  av κ φ w (lZ n (Rs ops.size) (Os ops.size)) a∧mZ m φ0 (Os 0).fn φ (Os ops.size).fn:=by
  intro L c κ φ w a hall hc hcs F hK
  have e:Os c=Os ops.size:=Fz c ops.size hcs (Nat.le_refl _) (fun p o hp hqo=>by
   have hps:=(Array.getElem?_eq_some_iff.1 hp).1;exact ⟨fun _=>hps,fun _=>(hc p o hp hqo).1 (hall p hps)⟩)
  rw [prefix_ L ops.size (Nat.le_refl _) (fun i hi=>⟨fun _=>hi,fun _=>hall i hi⟩),e] at F;rw [e] at hK;exact ⟨F,hK⟩
 have KS:∀(L:Array Bool) (i:Nat),i < L.size→L.getD i true=L.getD i false:=fun L i hi=>by simp [Array.getD,hi]
 intro fuel;induction fuel with
 | zero=>
   intro L c κ φ w a hL hcnt hcl hc hcs F hR hK;have hall:=kP hcnt;obtain ⟨F',hK'⟩:=fin L c κ φ w a (fun i hi=>by rw [←KS L i (by omega)];exact hall i (by omega)) hc hcs F hK;refine ⟨?_,rfl,κ,φ,F',hR,hK'⟩;cases hr:Region.ready .any ops L with
   | nil=>rfl
   | cons i r=>
     obtain ⟨o,_,h1,h2,_⟩:=mem_ready (md:=.any) (ops:=ops) (L:=L) (i:=i) (by rw [hr];simp);rw [hall i (by omega)] at h2;cases h2
 | succ fuel ih=>
   intro L c κ φ w a hL hcnt hcl hc hcs F hR hK;refine ⟨fun hr=>?_,fun j hj=>?_⟩
   ·have hall:=ready_nil hL (fun j o ho=>(bS hq ho).1) hr;obtain ⟨F',hK'⟩:=fin L c κ φ w a (fun i hi=>by rw [←KS L i (by omega)];exact hall i hi) hc hcs F hK;exact ⟨rfl,κ,φ,F',hR,hK'⟩
   ·obtain ⟨o,ho,hjn,hlj,gY⟩:=mem_ready hj;have ou:L.getD j false=false:=by rw [←KS L j (by omega)];exact hlj
    obtain ⟨s1,s2⟩:=bS hq ho;have anc:∀p,Before ops p j→L.getD p false=true:=fun p hp=>hp.ready (L:=fun i=>L.getD i false) hcl (fun o' ho' e he hb=>by rw [ho] at ho';injection ho' with ho';subst ho';exact gY e he hb)
    have desc:∀p,Before ops j p→L.getD p false=false:=fun p hp=>by
     cases hx:L.getD p false with
     | false=>rfl
     | true=>have:=hp.done (L:=fun i=>L.getD i false) hcl hx;simp only [ou] at this;cases this
    have hget:∀i,(L.setIfInBounds j true).getD i false=if i=j then true else L.getD i false:=by
     intro i;simp only [Array.getD_eq_getD_getElem?,Array.getElem?_setIfInBounds];by_cases e:i=j
     ·subst e;have:i < L.size:=by omega
      simp [this]
     ·have:¬j=i:=fun h=>e h.symm
      simp [e,this]
    have hcl' : ∀(j' : Nat) (o' : Oper),ops[j']? = some o'→(L.setIfInBounds j true).getD j' false=true→∀e∈o'.after,Region.binds .any e=true→(L.setIfInBounds j true).getD e.on false=true:=by
     intro j' o' ho' hl' e he' hb';rw [hget] at hl' ⊢;split
     ·rfl
     ·by_cases ej:j'=j
      ·subst ej;rw [ho] at ho';injection ho' with ho';subst ho';exact gY e he' hb'
      ·rw [if_neg ej] at hl';exact hcl j' o' ho' hl' e he' hb'
    have hcount:=count_set (L:=L) (i:=j) (by omega) hlj;cases hqo:fA o with
    | true=>
      have eO:Os c=Os j:=Fz c j hcs (by omega) (fun p q hp hqq=>by
       have hps:=(Array.getElem?_eq_some_iff.1 hp).1;rcases Nat.lt_trichotomy p j with h | h | h
       ·have:=(hc p q hp hqq).1 (anc p ((oG hl hp hqq).2 j hjn h));omega
       ·subst h;rw [ho] at hp;injection hp with hp;subst hp;rw [hqo] at hqq;cases hqq
       ·have h1:=desc p ((oG hl hp hqq).1 j h);have h2:=hc p q hp hqq;rw [h1] at h2;constructor
        ·intro h3;have:=h2.2 h3;cases this
        ·intro h3;omega)
      rcases hrun.at_ j o (by simpa using ho) with ⟨_,hOO,v,cc,Kr,hcc,hRR⟩ | ⟨h,_⟩
      ·simp only [Nat.zero_add] at hOO Kr hRR;have hRf:(Rs (j+1)).fn=iI (Rs j).fn o.dst v:=by rw [hRR,sQ (fun d hd=>(hdst j o d ho hd).2)]
       have k4:∀d,o.dst=some d→(Rs ops.size).fn d=v:=fun d hd=>by
        rw [←after (j+1) j d o (by omega) (by omega) ho hd,hRf];exact BM hd
       have same:∀d,d∈looks o ops→bK ops (Rs 0).fn (Rs ops.size).fn L d=(Rs j).fn d:=by
        intro d hd;by_cases hw:∃(i:Nat) (p:Oper),ops[i]? = some p∧p.dst=some d
        ·obtain ⟨i,p,hi,hp⟩:=hw;rcases (s2 i p d hi hp).2 hd with ⟨hij,ed,he1,he2,qY⟩ | ⟨hij,ed,he1,he2,qY⟩
         ·have Oh:L.getD i false=true:=by rw [←he2];exact gY ed he1 qY
          unfold bK;rw [if_pos ⟨i,p,hi,hp,Oh⟩];exact (after j i d p hij (by omega) hi hp).symm
         ·unfold bK
          rw [if_neg (fun ⟨i',p',h1,h2,h3⟩=>by
           have e:=hnd i' i p' p d h1 hi h2 hp;subst e;rw [h1] at hi;injection hi with hi;subst hi
           have:=hcl i' p' h1 h3 ed he1 qY
           rw [he2,ou] at this;cases this)]
          exact (before j d (by omega) (fun i' p' h0 h1 h2=>by have:=hnd i' i p' p d h1 hi h2 hp;omega)).symm
        ·unfold bK;rw [if_neg (fun ⟨i,p,hi,hp,_⟩=>hw ⟨i,p,hi,hp⟩)];exact (before j d (by omega) (fun i p _ hp vW=>hw ⟨i,p,hp,vW⟩)).symm
       have YQ : jU cf ops [] (bK ops (Rs 0).fn (Rs ops.size).fn L) (Os c).fn o=some (v,cc,[]):=by
        rw [←Kr,eO]
        have h1:guardOf (bK ops (Rs 0).fn (Rs ops.size).fn L) ops o=guardOf (Rs j).fn ops o:=by
         unfold guardOf;cases hgu:o.guard with
         | none=>rfl
         | some p=>
           obtain ⟨g,want⟩:=p;simp only;cases hog:ops[g]? with
           | none=>rfl
           | some gg=>
             simp only;cases hgd:gg.dst with
             | none=>rfl
             | some d=>
               simp only;rw [same d (by simp only [looks,List.mem_append];right;rw [hgu];simp only [hog,hgd];simp)]
        have h2:lU cf (bK ops (Rs 0).fn (Rs ops.size).fn L) (Os j).fn 0 o=lU cf (Rs j).fn (Os j).fn 0 o:=nC fun x hx=>kN fun d hd=>by
         subst hd;refine same d ?_;simp only [looks,List.mem_append,List.mem_filterMap];left;exact ⟨.tmp d,by simpa using hx,rfl⟩
        unfold jU;rw [h1,h2]
       refine Bj hcf F YQ hcc (by simp) ho (bV hg) (fun a' w' κ' φ' g1 g2 g3=>?_);have g1' : av κ' φ' w' { n:=n,R:=bK ops (Rs 0).fn (Rs ops.size).fn (L.setIfInBounds j true),O:=(Os c).fn,df:=Df.df } a':=by rw [←KQ ho hL k4];exact g1
       refine ih (L.setIfInBounds j true) c κ' φ' w' a' (by simpa using hL) (by omega) hcl' (fun p q hp hqq=>?_) hcs g1' (hR.trans g2) (hK.trans (g3.m m));rw [hget];by_cases e:p=j
       ·subst e;rw [ho] at hp;injection hp with hp;subst hp;rw [hqo] at hqq;cases hqq
       ·rw [if_neg e];exact hc p q hp hqq
      ·rw [hqo] at h;cases h
    | false=>
      obtain ⟨l1,l2⟩:=oG hl ho hqo
      have hall:∀i,i < ops.size→(L.getD i false=true↔i < j):=by
       intro i hi;rcases Nat.lt_trichotomy i j with h | h | h
       ·exact ⟨fun _=>h,fun _=>anc i (l1 i h)⟩
       ·subst h;rw [ou];exact ⟨fun h=>(by cases h),fun h=>absurd h (Nat.lt_irrefl _)⟩
       ·have:=desc i (l2 i hi h);rw [this];exact ⟨fun h=>(by cases h),fun h2=>by omega⟩
      have eO:Os c=Os j:=Fz c j hcs (by omega) (fun p q hp hqq=>by
       have hps:=(Array.getElem?_eq_some_iff.1 hp).1;rw [←hc p q hp hqq,hall p hps])
      rw [prefix_ L j (by omega) hall,eO] at F;rw [eO] at hK;rcases hrun.at_ j o (by simpa using ho) with ⟨h,_⟩ | ⟨_,vc,hvc,hv⟩
      ·rw [hqo] at h;cases h
      ·simp only [Nat.zero_add] at hv;refine BN hcf hvc F hv ho (bV hg) hn (fun a' w' κ' φ' g1 g2 g3=>?_)
       have Qp : ∀i,i < ops.size→((L.setIfInBounds j true).getD i false=true↔i < j+1):=by
        intro i hi;rw [hget];by_cases e:i=j
        ·subst e;simp
        ·rw [if_neg e,hall i hi];omega
       have g1' : av κ' φ' w' { n:=n,R:=bK ops (Rs 0).fn (Rs ops.size).fn (L.setIfInBounds j true),O:=(Os (j+1)).fn,df:=Df.df } a':=by
        rw [prefix_ _ (j+1) (by omega) Qp];exact g1
       exact ih (L.setIfInBounds j true) (j+1) κ' φ' w' a' (by simpa using hL) (by omega) hcl' (fun p q hp hqq=>Qp p (Array.getElem?_eq_some_iff.1 hp).1) (by omega) g1' (hR.trans g2) (hK.trans (g3.m m))
end Go.Am
namespace Go.Am
set_option linter.unusedSectionVars false
variable {P:Program} [Gl]
abbrev mU:=Option (RV×OT×Nat)
abbrev VK:=RT→OT→Nat→mU
abbrev Ins:=RT→OT→Nat→VK→mU
abbrev RK:=RV→OT→Nat→mU
abbrev fq:=Nat→List RV→OT→Nat→RK→mU
noncomputable def V7 (x:Operand):RT→RV:=
 Operand.rec (motive:=fun _=>RT→RV) (fun t R=>R.fn t) (fun v _=>match DV.qy v with | some x=>.d x | none=>.bot) (fun _ _=>.bot) (fun f _=>.fM (.func f) [] []) x
theorem FB (x:Operand) (R:RT):V7 x R=aH R.fn x:=by cases x<;>rfl
noncomputable def I4 (dst:Option Nat):RV→RT→RT:=
 Option.rec (motive:=fun _=>RV→RT→RT) (fun _ R=>R) (fun d v R=>R.put d v) dst
theorem p8 (dst:Option Nat) (v:RV) (R:RT):I4 dst v R=jm R dst v:=by cases dst<;>rfl
noncomputable def BQ (n:Nat) (k:Nat→mU):mU:=Nat.rec (motive:=fun _=>mU) (k 0) (fun m _=>k (Nat.succ m)) n
theorem zT (n:Nat) (k:Nat→mU):BQ n k=k n:=by cases n<;>rfl
noncomputable def V8 (u:List (Nat×au)):OT→Nat→(OT→Nat→mU)→mU:=
 List.rec (motive:=fun _=>OT→Nat→(OT→Nat→mU)→mU) (fun O nx k=>k O nx)
  (fun h t _ O nx k=>Bool.rec (motive:=fun _=>mU) none (BQ (Qn nx (h::t)) (k (pY O (h::t)))) (nH (h::t))) u
noncomputable def Ou (dst:Option Nat) (r:Option (bX×Bool)):Ins:=
 Option.rec (motive:=fun _=>Ins) (fun _ _ _ _=>none)
  (fun p=>Prod.rec (motive:=fun _=>Ins) (fun res _=>bX.rec (motive:=fun _=>Ins)
    (fun v u c R O nx k=>Bool.rec (motive:=fun _=>mU) none (V8 u O nx (k (I4 dst v R))) (allT c)) res) p) r
theorem zU {dst:Option Nat} {r:Option (bX×Bool)} {R:RT} {O:OT} {nx:Nat} {k:VK} {a} (h:Ou dst r R O nx k=some a) :
 ∃R' O' nx',xQ R O nx dst r=some (R',O',nx')∧k R' O' nx'=some a:=by
 cases r with
 | none=>cases h
 | some p=>
   obtain ⟨⟨v,u,c⟩,b⟩:=p;unfold Ou at h;simp only at h;unfold xQ;cases hc:allT c with
   | false=>rw [hc] at h;cases h
   | true=>
     rw [hc] at h;simp only [hc,cond_true];cases u with
     | nil=>exact ⟨_,_,_,rfl,by rw [←p8];exact h⟩
     | cons x t=>
       unfold V8 at h;simp only at h;cases hs:nH (x::t) with
       | false=>rw [hs] at h;cases h
       | true=>
         rw [hs] at h;simp only [zT] at h;simp only [cond_true];exact ⟨_,_,_,rfl,by rw [←p8];exact h⟩
noncomputable def GZ (x:Operand) (_:dK) (_:Nat→Bool) (_:fq) (o:Oper):Ins:=fun R O nx k=>k (I4 o.dst (V7 x R) R) O nx
noncomputable def fK (cf:dK) (_:Nat→Bool) (_:fq) (o:Oper):Ins:=fun R O nx k=>Ou o.dst (lU cf R.fn O.fn nx o) R O nx k
noncomputable def V9 (cf:dK) (has:Nat→Bool) (call:fq) (g:Nat) (dst:Option Nat) (args:List RV):Ins:=fun R O nx k=>
 Bool.rec (motive:=fun _=>mU) none
  (Option.rec (motive:=fun _=>mU) (call g args O nx (fun v O' nx'=>k (I4 dst v R) O' nx')) (fun res=>Ou dst (some (res,false)) R O nx k)
    (bif has g then gJ cf.K (cf.cK g) O.fn nx g args else none)) (cf.dP g)
noncomputable def BR (cf:dK) (has:Nat→Bool) (call:fq) (dst:Option Nat) (args:RT→List RV) (f:RV):Ins:=
 match f with
 | .fM (.func g) first caps=>fun R O nx k=>V9 cf has call g dst (first++args R++caps) R O nx k
 | _=>fun _ _ _ _=>none
noncomputable def zV (l:List Operand):RT→List RV:=
 List.rec (motive:=fun _=>RT→List RV) (fun _=>[]) (fun x _ ih R=>V7 x R::ih R) l
theorem xR (R:RT):∀l:List Operand,zV l R=l.map (aH R.fn)
 | []=>rfl
 | x::r=>by
   have:=xR R r
   unfold zV at this ⊢;simp only [List.map_cons,←this,←FB]
noncomputable def BS (c:Call) (cf:dK) (has:Nat→Bool) (call:fq) (o:Oper):Ins:=
 Callee.rec (motive:=fun _=>Ins)
  (fun f=>Operand.rec (motive:=fun _=>Ins) (fun t R O nx k=>BR cf has call o.dst (zV c.args.toList) (R.fn t) R O nx k) (fun _ _ _ _ _=>none) (fun _ _ _ _ _=>none)
    (fun g R O nx k=>V9 cf has call g o.dst (zV c.args.toList R) R O nx k) f)
  (fun _ _=>fK cf has call o) (fun _=>fK cf has call o) c.callee
noncomputable def fBody (op:Op):dK→(Nat→Bool)→fq→Oper→Ins:=
 Op.rec (motive:=fun _=>dK→(Nat→Bool)→fq→Oper→Ins) GZ GZ (fun _ _ _=>fK) (fun _=>fK) (fun _ _=>fK) (fun _ _=>fK) (fun _ _ _=>fK) (fun _ _ _ _=>fK) (fun _ _=>fK)
  (fun _ _ _=>fK) (fun _=>fK) (fun _=>fK) (fun _=>fK) (fun _ _ _ _ _=>fK) (fun _ _ _=>fK) (fun _ _ _=>fK) (fun _ _=>fK) (fun _ _=>fK) (fun _ _ _=>fK) (fun _ _=>fK)
  (fun _ _=>fK) (fun _ _ _=>fK) (fun _ _ _ _ _=>fK) (fun _ _ _=>fK) (fun _ _ _=>fK) (fun _ _ _=>fK) (fun _ _ _=>fK) (fun _ _ _ _=>fK) (fun _ _ _ _=>fK) (fun _ _ _=>fK)
  (fun _ _ _ _=>fK) (fun _ _=>fK) (fun _ _=>fK) (fun _=>fK) (fun _ _ _ _=>fK) (fun _ _=>fK) BS (fun _=>fK) (fun _=>fK) (fun _=>fK) (fun _ _=>fK) (fun _ _ _=>fK) (fun _ _=>fK) op
noncomputable def Rh (cf:dK) (has:Nat→Bool) (call:fq) (ops:Array Oper) (o:Oper):Ins:=
 Option.rec (motive:=fun _=>Ins) (fBody o.op cf has call o)
  (fun _ R O nx k=>Option.rec (motive:=fun _=>mU) none
    (fun b=>Bool.rec (motive:=fun _=>mU) (k (I4 o.dst .und R) O nx) (fBody o.op cf has call o R O nx k) b) (guardOf R.fn ops o)) o.guard
noncomputable def FC (cf:dK) (has:Nat→Bool) (call:fq) (ops:Array Oper) (l:List Oper):Ins:=
 List.rec (motive:=fun _=>Ins) (fun R O nx k=>k R O nx) (fun o _ ih R O nx k=>Rh cf has call ops o R O nx (fun R O nx=>ih R O nx k)) l
def BU (call:fq):lI:=fun g args O nx=>call g args O nx (fun r O nx=>some (r,O,nx))
noncomputable def stK (r:Option Vr) (k:VK):mU:=
 Option.rec (motive:=fun _=>mU) none (fun p=>Prod.rec (motive:=fun _=>mU) (fun R q=>Prod.rec (motive:=fun _=>mU) (fun O nx=>BQ nx (k R O)) q) p) r
noncomputable def qK (r:Option (RV×List Bool×List (RV×RV))) (dst:Option Nat):RT→(RT→mU)→mU:=
 Option.rec (motive:=fun _=>RT→(RT→mU)→mU) (fun _ _=>none) (fun p=>Prod.rec (motive:=fun _=>RT→(RT→mU)→mU) (fun v q=>Prod.rec (motive:=fun _=>RT→(RT→mU)→mU)
  (fun c _ R k=>Bool.rec (motive:=fun _=>mU) none (k (I4 dst v R)) (allT c)) q) p) r
noncomputable def DU (cf:dK) (has:Nat→Bool) (call:fq) (ops:Array Oper) (l:List Oper):Ins:=
 List.rec (motive:=fun _=>Ins) (fun R O nx k=>k R O nx) (fun o _ ih R O nx k=>Bool.rec (motive:=fun _=>mU) (Rh cf has call ops o R O nx (fun R O nx=>ih R O nx k)) (qK (jU cf ops [] R.fn O.fn o) o.dst R (fun R=>ih R O nx k)) (fA o)) l
noncomputable def BX (cf:dK) (has:Nat→Bool) (call:fq) (n:Nat) (ops:Array Oper) (draw:Bool):Ins:=
 Bool.rec (motive:=fun _=>Ins)
  (fun R O nx k=>Bool.rec (motive:=fun _=>mU) none (FC cf has call ops ops.toList R O nx k) (cO n ops))
  (Bool.rec (motive:=fun _=>Ins) (fun R O nx k=>stK (BL cf has (BU call) n ops true R O nx) k) (fun R O nx k=>DU cf has call ops ops.toList R O nx k) (cO n ops&&iB ops&&BO ops)) draw
noncomputable def KT (id:Nat) (l:List (Nat×VK)):VK:=
 List.rec (motive:=fun _=>VK) (fun _ _ _=>none) (fun h _ ih=>Prod.rec (motive:=fun _=>VK) (fun j k=>Bool.rec (motive:=fun _=>VK) ih k (Nat.beq j id)) h) l
noncomputable def Qq (b:VK→VK) (fuel:Nat):VK:=
 Nat.rec (motive:=fun _=>VK) (fun _ _ _=>none) (fun _ ih=>b ih) fuel
noncomputable def KU (v:RV) (x y:mU):mU:=
 match v with
 | .d (.bool t)=>Bool.rec (motive:=fun _=>mU) y x t
 | _=>none
noncomputable def I5 (cf:dK) (res:List ResultVar) (vY:RK):VK:=fun R O nx=>
 Option.rec (motive:=fun _=>mU) none (fun vs=>vY (one vs) O nx) (dO (lW cf.E R.fn O.fn) res)
end Go.Am
