/-
  Texts that the claim leans on: AmBridge, AmKon, AmVt, AmVm, AmVe, AmVs, AmVc, AmVl, AmVf.
-/
import Derived.Test.YtjoefbioobdinaaGreatDoorrf
import Derived.Below
import Derived.Laws.AppendOwn
namespace Go.Am
set_option linter.unusedSectionVars false
open Go.RowKit
variable {P:Program} [Gl]
def DV.one:DV→Option Value
 | .bool b=>some (.bool b)
 | .int k n=>some (.int k n)
 | .str s=>some (.string ⟨s.toArray⟩)
 | .aG=>some (.pointer none)
 | .BH=>some .nilFunc
 | .xL=>some .nilIface
 | _=>none
def DV.ones:List DV→Option (List Value)
 | []=>some []
 | x::r=>match x.one,DV.ones r with
   | some v,some l=>some (v::l)
   | _,_=>none
def DV.flat:DV→Option Value
 | .agg cs=>match DV.ones cs with
   | some l=>some (.agg l.toArray)
   | none=>none
 | .aZ cs=>match DV.ones cs with
   | some l=>some (.tuple l.toArray)
   | none=>none
 | x=>x.one
theorem DR.one {κ:bB} {h:Heap} {x:DV} {v u:Value} (r:DR κ h x v) (e:x.one=some u):v=u:=by
 cases r<;>simp_all [DV.one]
theorem DR.CQ {κ:bB} {h:Heap} {x:DV} {u:Value} (e:x.one=some u):DR κ h x u:=by
 cases x<;>simp [DV.one] at e<;>subst e<;>constructor
theorem DV.LQ {x:DV} {u:Value} (e:x.one=some u):x.gI=true:=by cases x<;>first | rfl | (simp [DV.one] at e)
theorem DV.qD:∀(cs:List DV) (us:List Value),DV.ones cs=some us→us.length=cs.length∧(∀x∈cs,∃u,x.one=some u)∧∀(i:Nat) (x:DV) (u:Value),cs[i]? = some x→us[i]? = some u→x.one=some u
 | [],us,h=>by simp [DV.ones] at h;subst h;simp
 | x::cs,us,h=>by
   simp only [DV.ones] at h;cases h1:x.one with
   | none=>rw [h1] at h;simp at h
   | some v=>
     cases h2:DV.ones cs with
     | none=>rw [h1,h2] at h;simp at h
     | some l=>
       rw [h1,h2] at h;simp at h;subst h;obtain ⟨g1,g2,g3⟩:=DV.qD cs l h2;refine ⟨by simp [g1],fun y hy=>?_,fun i y u hy hu=>?_⟩
       ·rcases List.mem_cons.1 hy with rfl | hy
        ·exact ⟨v,h1⟩
        ·exact g2 y hy
       ·cases i with
        | zero=>simp at hy hu;subst hy;subst hu;exact h1
        | succ i=>exact g3 i y u (by simpa using hy) (by simpa using hu)
theorem DR.flat {κ:bB} {h:Heap} {x:DV} {v u:Value} (r:DR κ h x v) (e:x.flat=some u):v=u:=by
 have key:∀{cs:List DV} {vs:Array Value} {l:List Value},DV.ones cs=some l→vs.size=cs.length→(∀(i:Nat) (x:DV) (v:Value),cs[i]? = some x→vs[i]? = some v→DR κ h x v)→vs=l.toArray:=by
  intro cs vs l h1 h2 h3;obtain ⟨g1,g2,g3⟩:=DV.qD cs l h1;apply Array.ext
  ·simp;omega
  ·intro i hi hi2;simp at hi2;have e1:cs[i]? = some cs[i]:=by simp [show i < cs.length by omega]
   have e2:vs[i]? = some vs[i]:=by simp [hi]
   have e3:l[i]? = some l[i]:=by simp [hi2]
   have:=(h3 i _ _ e1 e2).one (g3 i _ _ e1 e3)
   simpa using this
 cases x with
 | agg cs=>
   simp only [DV.flat] at e;cases h1:DV.ones cs with
   | none=>rw [h1] at e;simp at e
   | some l=>
     rw [h1] at e;simp at e;subst e;cases r with
     | agg hl hs hr=>rw [key h1 hl hr]
 | aZ cs=>
   simp only [DV.flat] at e;cases h1:DV.ones cs with
   | none=>rw [h1] at e;simp at e
   | some l=>
     rw [h1] at e;simp at e;subst e;cases r with
     | aZ hl hr=>rw [key h1 hl hr]
 | _=>exact r.one e
theorem DR.of_flat {κ:bB} {h:Heap} {x:DV} {u:Value} (e:x.flat=some u):DR κ h x u:=by
 cases x with
 | agg cs=>
   simp only [DV.flat] at e;cases h1:DV.ones cs with
   | none=>rw [h1] at e;simp at e
   | some l=>
     rw [h1] at e;simp at e;subst e;obtain ⟨g1,g2,g3⟩:=DV.qD cs l h1;exact .agg (by simpa using g1) (fun y hy=>by obtain ⟨u,hu⟩:=g2 y hy;exact DV.LQ hu) (fun i x v hx hv=>DR.CQ (g3 i x v hx (by simpa using hv)))
 | aZ cs=>
   simp only [DV.flat] at e;cases h1:DV.ones cs with
   | none=>rw [h1] at e;simp at e
   | some l=>
     rw [h1] at e;simp at e;subst e;obtain ⟨g1,g2,g3⟩:=DV.qD cs l h1;exact .aZ (by simpa using g1) (fun i x v hx hv=>DR.CQ (g3 i x v hx (by simpa using hv)))
 | _=>exact DR.CQ e
theorem LU (i:Nat):aR [] i=none:=by simp [aR]
theorem EI {f:FuncId} {args:List DV} {d:DV}
 (h:∀(κ:bB) (w:World) (vs:Array Value),BJ κ w→vs.size=args.length→(∀(i:Nat) (x:DV) (v:Value),args[i]? = some x→vs[i]? = some v→DR κ w.heap x v)→
   Calls P f vs w fun e w'=>∃v κ',e = .returned v∧DR κ' w'.heap d v∧(w.heap.size≤w'.heap.size∧w'.os=w.os∧w'.output=w.output)∧(∀b,b < w.heap.size→w'.heap[b]? = w.heap[b]?∧κ' b=κ b)∧(∀b,κ' b≠.kW→b < w'.heap.size)) :
 C P f (args.map .d) [] (fun r o=>r = .d d∧o=[]):=by
 intro κ φ w vs h1 h2 h3 h4;refine (h κ w vs h2 (by simpa using h3) (fun i x v hx hv=>?_)).mono ?_
 ·have:=h4 i (.d x) v (by simp [hx]) hv
  cases this with
  | d hr=>exact hr
 ·rintro e w' ⟨v,κ',rfl,hd,hs,hb,hn⟩
  have hfr:Fr κ w κ' w':=by
   refine ⟨hs.1,fun b hk=>?_,fun b hl hk=>?_,fun b c ty fz hc=>?_,hs.2.1,hs.2.2⟩
   ·have hl:=h2.lt b (by rw [hk];simp);exact ⟨(hb b hl).2.trans hk,(hb b hl).1⟩
   ·exact ⟨(hb b hl).2.trans hk,(hb b hl).1⟩
   ·have hl:b < w.heap.size:=by
     rcases Nat.lt_or_ge b w.heap.size with h' | h'
     ·exact h'
     ·rw [Array.getElem?_eq_none h'] at hc;simp at hc
    exact ⟨c,fz,(hb b hl).1.trans hc,rfl⟩
  refine ⟨v,.d d,[],κ',φ,rfl,⟨rfl,rfl⟩,.d hd,fun i=>?_,h2.step hfr hn,Nat.le_refl _,hfr,Kp.refl _ _⟩
  have:=h1 i
  rw [LU] at this ⊢;exact this
theorem IG {f:FuncId} {args:List DV} {us:List Value} {d:DV} {v:Value} (ha:eX DV.flat args=some us) (hd:d.flat=some v)
 (h:∀(κ:bB) (w:World),BJ κ w→Calls P f us.toArray w fun e w'=>e = .returned v∧Below w.heap.size w w'):C P f (args.map .d) [] (fun r o=>r = .d d∧o=[]):=by
 obtain ⟨g1,g2⟩:=dZ _ args us ha;refine EI fun κ w vs hk hl hr=>?_
 have:vs=us.toArray:=by
  apply Array.ext
  ·simp;omega
  ·intro i hi hi2;simp at hi2;have e1:args[i]? = some args[i]:=by simp [show i < args.length by omega]
   have e2:vs[i]? = some vs[i]:=by simp [hi]
   have e3:us[i]? = some us[i]:=by simp [hi2]
   simpa using (hr i _ _ e1 e2).flat (g2 i _ _ e1 e3)
 subst this;refine (h κ w hk).mono ?_
 rintro e w' ⟨rfl,hB⟩
 exact ⟨v,κ,rfl,DR.of_flat hd,⟨hB.size,hB.os,hB.output⟩,fun b hb=>⟨hB.block b hb,rfl⟩,fun b hb=>Nat.lt_of_lt_of_le (hk.lt b hb) hB.size⟩
theorem om {f:FuncId} {args:List DV} {us:List Value} {d:DV} {v:Value} (ha:eX DV.flat args=some us) (hd:d.flat=some v)
 (h:∀w:World,Calls P f us.toArray w fun e w'=>e = .returned v∧Below w.heap.size w w'):C P f (args.map .d) [] (fun r o=>r = .d d∧o=[]):=
 IG ha hd fun _ w _=>h w
def mW (κ:bB) (v:Value):bB:=fun b=>if v.ownBlock=some b then .dS else κ b
theorem newRow {κ:bB} {w w' : World} {e:TypeId} {sz n:Nat} {v:Value} {xs:List Value} {els:List DV} (ho:w'.ownsRow w.heap.size e sz v n xs) (hn:n=els.length) (hz:xM sz els)
 (hx:∀(i:Nat) (x:DV) (j:Nat) (y:DV) (u:Value),els[i]? = some x→x.cells[j]? = some y→xs[i*sz+j]? = some u→y.one=some u)
 (hk:∀b,κ b≠.kW→b < w.heap.size) (hs:w.heap.size≤w'.heap.size) :
 DR (mW κ v) w'.heap (.aF sz els false) v∧(∀b,b < w.heap.size→mW κ v b=κ b)∧(∀b,mW κ v b≠.kW→b < w'.heap.size):=by
 obtain ⟨h1,h2⟩:=ho;rcases h2 with ⟨rfl,h0⟩ | ⟨g,cap,cur,rfl,hg,hc,h3,_,h4,h5⟩
 ·have:els=[]:=List.eq_nil_of_length_eq_zero (by omega)
  subst this;exact ⟨.iX (fun h=>by cases h),fun b _=>by simp [mW,Value.ownBlock],fun b hb=>by simp [mW,Value.ownBlock] at hb;exact Nat.lt_of_lt_of_le (hk b hb) hs⟩
 ·subst hn
  have hlt:g < w'.heap.size:=by
   rcases Nat.lt_or_ge g w'.heap.size with h' | h'
   ·exact h'
   ·rw [Array.getElem?_eq_none h'] at hc;simp at hc
  refine ⟨.aF (by simp [mW,Value.ownBlock]) hc (fun h=>by cases h) h3 (by omega) hz (fun i x j y u hi hj hu=>?_),fun b hb=>?_,fun b hb=>?_⟩
  ·have hil:=(List.getElem?_eq_some_iff.1 hi).1
   have hjl:j < sz:=by
    have:=(hz x (List.mem_of_getElem? hi)).1
    have:=(List.getElem?_eq_some_iff.1 hj).1
    omega
   have hlt:i*sz+j < els.length*sz:=by
    have:(i+1)*sz≤els.length*sz:=Nat.mul_le_mul_right _ hil
    rw [Nat.add_mul,Nat.one_mul] at this;omega
   refine DR.CQ (hx i x j y u hi hj ?_);rw [←h5,List.getElem?_take,if_pos hlt];simpa using hu
  ·simp only [mW,Value.ownBlock,Option.some.injEq];rw [if_neg (by omega)]
  ·simp only [mW,Value.ownBlock,Option.some.injEq] at hb;by_cases e:g=b
   ·subst e;exact hlt
   ·rw [if_neg e] at hb;exact Nat.lt_of_lt_of_le (hk b hb) hs
end Go.Am
namespace Go.Am
set_option linter.unusedSectionVars false
variable {P:Program} [Gl]
abbrev kZ:=List RV→List ay→Option (RV×List ay×List Bool)
def AA:List (Nat×kZ)→Nat→Option kZ
 | [],_=>none
 | (i,g)::r,f=>bif Nat.beq i f then some g else AA r f
def EJ (l:List (Nat×kZ)):uI:=fun f a o=>match AA l f with
 | some g=>g a o
 | none=>none
def bY (P:Program) (f:Nat) (g:kZ):Prop:=∀a o r o' c,g a o=some (r,o',c)→(∀b∈c,b=true)→C P f a o (fun r2 o2=>r2=r∧o2=o')
theorem yL:∀(l:List (Nat×kZ)) (f:Nat) (g:kZ),AA l f=some g→(f,g)∈l
 | [],f,g,h=>by simp [AA] at h
 | (i,g')::r,f,g,h=>by
   simp only [AA] at h;cases hb:Nat.beq i f with
   | true=>rw [hb] at h;simp at h;subst h;have:=bV hb;subst this;simp
   | false=>rw [hb] at h;simp at h;simp [yL r f g h]
inductive eZ (P:Program):List (Nat×kZ)→Prop
 | nil:eZ P []
 | cons {f:Nat} {g:kZ} {l:List (Nat×kZ)} (h:bY P f g) (t:eZ P l):eZ P ((f,g)::l)
theorem eZ.mem {l:List (Nat×kZ)} (h:eZ P l):∀f g,(f,g)∈l→bY P f g:=by
 induction h with
 | nil=>intro f g hm;simp at hm
 | cons h _ ih=>
   intro f g hm;rcases List.mem_cons.1 hm with e | hm
   ·injection e with e1 e2;subst e1;subst e2;exact h
   ·exact ih f g hm
theorem yM {l:List (Nat×kZ)} (h:eZ P l):aX P (EJ l):=by
 intro f args objs r bL c hk hc;unfold EJ at hk;cases hf:AA l f with
 | none=>rw [hf] at hk;simp at hk
 | some g=>rw [hf] at hk;exact h.mem f g (yL l f g hf) args objs r bL c hk hc
def e0 (g:Option (DV×List Bool)):kZ:=fun a o=>match a,o with
 | [],[]=>match g with
   | some (y,c)=>some (.d y,[],c)
   | none=>none
 | _,_=>none
def e1 (g:DV→Option (DV×List Bool)):kZ:=fun a o=>match a,o with
 | [.d x],[]=>match g x with
   | some (y,c)=>some (.d y,[],c)
   | none=>none
 | _,_=>none
def e2 (g:DV→DV→Option (DV×List Bool)):kZ:=fun a o=>match a,o with
 | [.d x,.d x2],[]=>match g x x2 with
   | some (y,c)=>some (.d y,[],c)
   | none=>none
 | _,_=>none
theorem Q9 {f:Nat} {g:Option (DV×List Bool)} (h:∀y c,g=some (y,c)→(∀b∈c,b=true)→C P f [] [] (fun r o=>r = .d y∧o=[])):bY P f (e0 g):=by
 intro a o r o' c hg hc;unfold e0 at hg;split at hg
 ·cases hx:g with
  | none=>rw [hx] at hg;simp at hg
  | some p=>
    obtain ⟨y,c'⟩:=p;rw [hx] at hg;simp at hg;obtain ⟨rfl,rfl,rfl⟩:=hg;exact h y c' hx hc
 ·simp at hg
theorem II {f:Nat} {g:DV→Option (DV×List Bool)} (h:∀x y c,g x=some (y,c)→(∀b∈c,b=true)→C P f [.d x] [] (fun r o=>r = .d y∧o=[])):bY P f (e1 g):=by
 intro a o r o' c hg hc;unfold e1 at hg;split at hg
 ·rename_i x;cases hx:g x with
  | none=>rw [hx] at hg;simp at hg
  | some p=>
    obtain ⟨y,c'⟩:=p;rw [hx] at hg;simp at hg;obtain ⟨rfl,rfl,rfl⟩:=hg;exact h x y c' hx hc
 ·simp at hg
theorem pJ {f:Nat} {g:DV→DV→Option (DV×List Bool)} (h:∀x x2 y c,g x x2=some (y,c)→(∀b∈c,b=true)→C P f [.d x,.d x2] [] (fun r o=>r = .d y∧o=[])):bY P f (e2 g):=by
 intro a o r o' c hg hc;unfold e2 at hg;split at hg
 ·rename_i x x2;cases hx:g x x2 with
  | none=>rw [hx] at hg;simp at hg
  | some p=>
    obtain ⟨y,c'⟩:=p;rw [hx] at hg;simp at hg;obtain ⟨rfl,rfl,rfl⟩:=hg;exact h x x2 y c' hx hc
 ·simp at hg
def runK (P:Program) (cf:eu) (n l:Nat):uI:=fun f args objs=>
 match P.funcs[f]? with
 | some fn=>match fn.body with
   | some body=>bif Nat.ble args.length fn.ntmps&&Nat.ble args.length 60000&&Nat.ble objs.length 60 then
      match au cf (!(cf.dw f)) fn.results.toList n l [] [.code body] (dz fn.ntmps args objs) with
      | some (r,o,c,es)=>match es with
        | []=>some (r,o,c)
        | _::_=>none
      | none=>none
     else none
   | none=>none
 | none=>none
def Xj (a b:uI):uI:=fun f args objs=>match a f args objs with
 | some x=>some x
 | none=>b f args objs
theorem LV {a b:uI} (ha:aX P a) (hb:aX P b):aX P (Xj a b):=by
 intro f args objs r bL c hk hc;unfold Xj at hk;cases h:a f args objs with
 | some x=>rw [h] at hk;simp only [Option.some.injEq] at hk;subst hk;exact ha _ _ _ _ _ _ h hc
 | none=>rw [h] at hk;exact hb _ _ _ _ _ _ hk hc
theorem Pp {cf:eu} (hok:Ok P cf) (n l:Nat):aX P (runK P cf n l):=by
 intro f args objs r bL c hk hc;unfold runK at hk;cases hf:P.funcs[f]? with
 | none=>rw [hf] at hk;simp at hk
 | some fn=>
   rw [hf] at hk;simp only at hk;cases hb:fn.body with
   | none=>rw [hb] at hk;simp at hk
   | some body=>
     rw [hb] at hk;simp only at hk;cases hg:(Nat.ble args.length fn.ntmps&&Nat.ble args.length 60000&&Nat.ble objs.length 60) with
     | false=>rw [hg] at hk;simp at hk
     | true=>
       rw [hg] at hk;simp only [cond_true] at hk;split at hk
       ·rename_i r1 o1 c1 es1 hr;split at hk
        ·simp only [Option.some.injEq,Prod.mk.injEq] at hk;obtain ⟨rfl,rfl,rfl⟩:=hk;refine bn (!(cf.dw f)) hf hb hg ?_;refine WK.fin hok n l [] c1 [] rfl hr ?_ trivial ⟨rfl,rfl⟩;clear hr;induction c1 with
         | nil=>trivial
         | cons x r ih=>exact ⟨hc x (by simp),ih (fun b hb=>hc b (by simp [hb]))⟩
        ·simp at hk
       ·simp at hk
def layer (P:Program) (base:uI) (dw eY:Nat→Bool) (n l:Nat):Nat→uI
 | 0=>base
 | d+1=>Xj base (runK P { E:=Env.of P,K:=layer P base dw eY n l d,dw:=dw,eY:=eY } n l)
end Go.Am
namespace Go.Am
variable {P:Program} [Gl]
theorem EK {base:uI} {dw Ra:Nat→Bool} {n l:Nat} (hm:P.follows .mixedOrders=true) (hb:aX P base) (hc:∀f,Ra f=true→eY P f=true):∀d,aX P (layer P base dw Ra n l d)
 | 0=>hb
 | d+1=>LV hb (Pp (cf:={ E:=Env.of P,K:=layer P base dw Ra n l d,dw:=dw,eY:=Ra }) ⟨⟨rfl,EK hm hb hc d,hc⟩,hm⟩ n l)
end Go.Am
namespace Go.Am
set_option linter.unusedSectionVars false
variable [Gl]
inductive Sd where
 | d0 | d1 | d2 | d3 | d4 | d5 | d6 | d7 | d8 | d9 | d10 | d11 | d12 | d13 | d14 | d15
 deriving DecidableEq
inductive dV (α:Type) where
 | mk (a0 a1 a2 a3 a4 a5 a6 a7 a8 a9 rG rH a12 rJ rM rO:α)
def fK (n:Nat):Sd:=bif Nat.beq n 0 then .d0 else bif Nat.beq n 1 then .d1 else bif Nat.beq n 2 then .d2 else bif Nat.beq n 3 then .d3 else bif Nat.beq n 4 then .d4 else bif Nat.beq n 5 then .d5 else bif Nat.beq n 6 then .d6 else bif Nat.beq n 7 then .d7 else bif Nat.beq n 8 then .d8 else bif Nat.beq n 9 then .d9 else bif Nat.beq n 10 then .d10 else bif Nat.beq n 11 then .d11 else bif Nat.beq n 12 then .d12 else bif Nat.beq n 13 then .d13 else bif Nat.beq n 14 then .d14 else .d15
noncomputable def dV.get {α:Type} (d:Sd) (t:dV α):α:=
 Sd.rec (motive:=fun _=>dV α→α) (fun t=>dV.rec (motive:=fun _=>α) (fun a0 _ _ _ _ _ _ _ _ _ _ _ _ _ _ _=>a0) t) (fun t=>dV.rec (motive:=fun _=>α) (fun _ a1 _ _ _ _ _ _ _ _ _ _ _ _ _ _=>a1) t) (fun t=>dV.rec (motive:=fun _=>α) (fun _ _ a2 _ _ _ _ _ _ _ _ _ _ _ _ _=>a2) t) (fun t=>dV.rec (motive:=fun _=>α) (fun _ _ _ a3 _ _ _ _ _ _ _ _ _ _ _ _=>a3) t) (fun t=>dV.rec (motive:=fun _=>α) (fun _ _ _ _ a4 _ _ _ _ _ _ _ _ _ _ _=>a4) t) (fun t=>dV.rec (motive:=fun _=>α) (fun _ _ _ _ _ a5 _ _ _ _ _ _ _ _ _ _=>a5) t) (fun t=>dV.rec (motive:=fun _=>α) (fun _ _ _ _ _ _ a6 _ _ _ _ _ _ _ _ _=>a6) t) (fun t=>dV.rec (motive:=fun _=>α) (fun _ _ _ _ _ _ _ a7 _ _ _ _ _ _ _ _=>a7) t) (fun t=>dV.rec (motive:=fun _=>α) (fun _ _ _ _ _ _ _ _ a8 _ _ _ _ _ _ _=>a8) t) (fun t=>dV.rec (motive:=fun _=>α) (fun _ _ _ _ _ _ _ _ _ a9 _ _ _ _ _ _=>a9) t) (fun t=>dV.rec (motive:=fun _=>α) (fun _ _ _ _ _ _ _ _ _ _ rG _ _ _ _ _=>rG) t) (fun t=>dV.rec (motive:=fun _=>α) (fun _ _ _ _ _ _ _ _ _ _ _ rH _ _ _ _=>rH) t) (fun t=>dV.rec (motive:=fun _=>α) (fun _ _ _ _ _ _ _ _ _ _ _ _ a12 _ _ _=>a12) t) (fun t=>dV.rec (motive:=fun _=>α) (fun _ _ _ _ _ _ _ _ _ _ _ _ _ rJ _ _=>rJ) t) (fun t=>dV.rec (motive:=fun _=>α) (fun _ _ _ _ _ _ _ _ _ _ _ _ _ _ rM _=>rM) t) (fun t=>dV.rec (motive:=fun _=>α) (fun _ _ _ _ _ _ _ _ _ _ _ _ _ _ _ rO=>rO) t) d t
noncomputable def dV.put {α:Type} (d:Sd) (v:α) (t:dV α):dV α:=
 Sd.rec (motive:=fun _=>α→dV α→dV α) (fun v t=>dV.rec (motive:=fun _=>dV α) (fun _ a1 a2 a3 a4 a5 a6 a7 a8 a9 rG rH a12 rJ rM rO=>.mk v a1 a2 a3 a4 a5 a6 a7 a8 a9 rG rH a12 rJ rM rO) t) (fun v t=>dV.rec (motive:=fun _=>dV α) (fun a0 _ a2 a3 a4 a5 a6 a7 a8 a9 rG rH a12 rJ rM rO=>.mk a0 v a2 a3 a4 a5 a6 a7 a8 a9 rG rH a12 rJ rM rO) t) (fun v t=>dV.rec (motive:=fun _=>dV α) (fun a0 a1 _ a3 a4 a5 a6 a7 a8 a9 rG rH a12 rJ rM rO=>.mk a0 a1 v a3 a4 a5 a6 a7 a8 a9 rG rH a12 rJ rM rO) t) (fun v t=>dV.rec (motive:=fun _=>dV α) (fun a0 a1 a2 _ a4 a5 a6 a7 a8 a9 rG rH a12 rJ rM rO=>.mk a0 a1 a2 v a4 a5 a6 a7 a8 a9 rG rH a12 rJ rM rO) t) (fun v t=>dV.rec (motive:=fun _=>dV α) (fun a0 a1 a2 a3 _ a5 a6 a7 a8 a9 rG rH a12 rJ rM rO=>.mk a0 a1 a2 a3 v a5 a6 a7 a8 a9 rG rH a12 rJ rM rO) t) (fun v t=>dV.rec (motive:=fun _=>dV α) (fun a0 a1 a2 a3 a4 _ a6 a7 a8 a9 rG rH a12 rJ rM rO=>.mk a0 a1 a2 a3 a4 v a6 a7 a8 a9 rG rH a12 rJ rM rO) t) (fun v t=>dV.rec (motive:=fun _=>dV α) (fun a0 a1 a2 a3 a4 a5 _ a7 a8 a9 rG rH a12 rJ rM rO=>.mk a0 a1 a2 a3 a4 a5 v a7 a8 a9 rG rH a12 rJ rM rO) t) (fun v t=>dV.rec (motive:=fun _=>dV α) (fun a0 a1 a2 a3 a4 a5 a6 _ a8 a9 rG rH a12 rJ rM rO=>.mk a0 a1 a2 a3 a4 a5 a6 v a8 a9 rG rH a12 rJ rM rO) t) (fun v t=>dV.rec (motive:=fun _=>dV α) (fun a0 a1 a2 a3 a4 a5 a6 a7 _ a9 rG rH a12 rJ rM rO=>.mk a0 a1 a2 a3 a4 a5 a6 a7 v a9 rG rH a12 rJ rM rO) t) (fun v t=>dV.rec (motive:=fun _=>dV α) (fun a0 a1 a2 a3 a4 a5 a6 a7 a8 _ rG rH a12 rJ rM rO=>.mk a0 a1 a2 a3 a4 a5 a6 a7 a8 v rG rH a12 rJ rM rO) t) (fun v t=>dV.rec (motive:=fun _=>dV α) (fun a0 a1 a2 a3 a4 a5 a6 a7 a8 a9 _ rH a12 rJ rM rO=>.mk a0 a1 a2 a3 a4 a5 a6 a7 a8 a9 v rH a12 rJ rM rO) t) (fun v t=>dV.rec (motive:=fun _=>dV α) (fun a0 a1 a2 a3 a4 a5 a6 a7 a8 a9 rG _ a12 rJ rM rO=>.mk a0 a1 a2 a3 a4 a5 a6 a7 a8 a9 rG v a12 rJ rM rO) t) (fun v t=>dV.rec (motive:=fun _=>dV α) (fun a0 a1 a2 a3 a4 a5 a6 a7 a8 a9 rG rH _ rJ rM rO=>.mk a0 a1 a2 a3 a4 a5 a6 a7 a8 a9 rG rH v rJ rM rO) t) (fun v t=>dV.rec (motive:=fun _=>dV α) (fun a0 a1 a2 a3 a4 a5 a6 a7 a8 a9 rG rH a12 _ rM rO=>.mk a0 a1 a2 a3 a4 a5 a6 a7 a8 a9 rG rH a12 v rM rO) t) (fun v t=>dV.rec (motive:=fun _=>dV α) (fun a0 a1 a2 a3 a4 a5 a6 a7 a8 a9 rG rH a12 rJ _ rO=>.mk a0 a1 a2 a3 a4 a5 a6 a7 a8 a9 rG rH a12 rJ v rO) t) (fun v t=>dV.rec (motive:=fun _=>dV α) (fun a0 a1 a2 a3 a4 a5 a6 a7 a8 a9 rG rH a12 rJ rM _=>.mk a0 a1 a2 a3 a4 a5 a6 a7 a8 a9 rG rH a12 rJ rM v) t) d v t
def dV.all {α:Type} (v:α):dV α:=.mk v v v v v v v v v v v v v v v v
theorem dV.get_put {α:Type} (d e:Sd) (v:α) (t:dV α):(t.put d v).get e=if d=e then v else t.get e:=by
 cases t;cases d<;>cases e<;>rfl
theorem dV.IJ {α:Type} (d:Sd) (v:α):(dV.all v).get d=v:=by cases d<;>rfl
theorem oo {n m:Nat} (hn:n < 16) (hm:m < 16) (h:fK n=fK m):n=m:=by
 have key:∀n:Fin 16,∀m:Fin 16,fK n.1=fK m.1→n.1=m.1:=by decide
 exact key ⟨n,hn⟩ ⟨m,hm⟩ h
abbrev AB:=dV (dV RV)
noncomputable def AB.get (t:Nat) (R:AB):RV:=dV.get (fK (t % 16)) (dV.get (fK (t / 16)) R)
noncomputable def AB.put (t:Nat) (v:RV) (R:AB):AB:=dV.put (fK (t / 16)) (dV.put (fK (t % 16)) v (dV.get (fK (t / 16)) R)) R
inductive RT where
 | mk (lo hi:AB)
noncomputable def RT.get (t:Nat) (R:RT):RV:=RT.rec (motive:=fun _=>RV) (fun lo hi=>Bool.rec (motive:=fun _=>RV) (AB.get t lo) (AB.get (t-256) hi) (Nat.ble 256 t)) R
noncomputable def RT.put (t:Nat) (v:RV) (R:RT):RT:=RT.rec (motive:=fun _=>RT) (fun lo hi=>Bool.rec (motive:=fun _=>RT) (.mk (AB.put t v lo) hi) (.mk lo (AB.put (t-256) v hi)) (Nat.ble 256 t)) R
noncomputable def RT.fn (R:RT) (t:Nat):RV:=bif Nat.ble 512 t then .bot else R.get t
noncomputable def RT.nil:RT:=.mk (dV.all (dV.all .bot)) (dV.all (dV.all .bot))
theorem AB.get_put {t u:Nat} (ht:t < 256) (hu:u < 256) (v:RV) (R:AB):AB.get u (AB.put t v R)=if u=t then v else AB.get u R:=by
 simp only [AB.get,AB.put,dV.get_put];by_cases e:u=t
 ·subst e;simp [dV.get_put]
 ·rw [if_neg e];by_cases h1:fK (t / 16)=fK (u / 16)
  ·have:=oo (by omega) (by omega) h1
   rw [if_pos h1,dV.get_put,if_neg (fun h2=>by have:=oo (by omega) (by omega) h2;omega),h1]
  ·rw [if_neg h1]
theorem RT.get_put {t u:Nat} (ht:t < 512) (hu:u < 512) (v:RV) (R:RT):(R.put t v).get u=if u=t then v else R.get u:=by
 cases R with
 | mk lo hi=>
 unfold RT.get RT.put;by_cases h1:256≤t
 ·rw [Nat.ble_eq_true_of_le h1];by_cases h2:256≤u
  ·rw [Nat.ble_eq_true_of_le h2];simp only;rw [AB.get_put (by omega) (by omega)];by_cases e:u=t
   ·rw [if_pos e,if_pos (by omega)]
   ·rw [if_neg e,if_neg (by omega)]
  ·have hb:Nat.ble 256 u=false:=by cases h:Nat.ble 256 u;rfl;exact absurd (Nat.le_of_ble_eq_true h) h2
   rw [hb];simp only;rw [if_neg (by omega)]
 ·have hb:Nat.ble 256 t=false:=by cases h:Nat.ble 256 t;rfl;exact absurd (Nat.le_of_ble_eq_true h) h1
  rw [hb];by_cases h2:256≤u
  ·rw [Nat.ble_eq_true_of_le h2];simp only;rw [if_neg (by omega)]
  ·have hb:Nat.ble 256 u=false:=by cases h:Nat.ble 256 u;rfl;exact absurd (Nat.le_of_ble_eq_true h) h2
   rw [hb];simp only;rw [AB.get_put (by omega) (by omega)]
theorem RT.sG {t:Nat} (ht:t < 512) (v:RV) (R:RT):(R.put t v).fn=jl R.fn t v:=by
 funext u;unfold RT.fn jl;by_cases hu:u < 512
 ·have hb:Nat.ble 512 u=false:=by cases h:Nat.ble 512 u;rfl;exact absurd (Nat.le_of_ble_eq_true h) (by omega)
  simp only [hb,cond_false];rw [RT.get_put ht hu]
 ·have hb:Nat.ble 512 u=true:=Nat.ble_eq_true_of_le (by omega);simp only [hb,cond_true];rw [if_neg (by omega)]
theorem RT.get_nil (t:Nat):RT.nil.get t = .bot:=by
 unfold RT.get RT.nil AB.get;cases Nat.ble 256 t<;>simp only [dV.IJ]
theorem RT.Gr:RT.nil.fn=fun _=>.bot:=by
 funext t;unfold RT.fn;rw [RT.get_nil];cases Nat.ble 512 t<;>rfl
abbrev OT:=dV (dV (dV (dV (dV (Option ay)))))
noncomputable def OT.get (i:Nat) (O:OT):Option ay:=
 dV.get (fK (i % 16)) (dV.get (fK (i / 16 % 16)) (dV.get (fK (i / 256 % 16)) (dV.get (fK (i / 4096 % 16)) (dV.get (fK (i / 65536)) O))))
noncomputable def OT.put (i:Nat) (p:Option ay) (O:OT):OT:=
 dV.put (fK (i / 65536)) (dV.put (fK (i / 4096 % 16)) (dV.put (fK (i / 256 % 16)) (dV.put (fK (i / 16 % 16)) (dV.put (fK (i % 16)) p
  (dV.get (fK (i / 16 % 16)) (dV.get (fK (i / 256 % 16)) (dV.get (fK (i / 4096 % 16)) (dV.get (fK (i / 65536)) O)))))
  (dV.get (fK (i / 256 % 16)) (dV.get (fK (i / 4096 % 16)) (dV.get (fK (i / 65536)) O))))
  (dV.get (fK (i / 4096 % 16)) (dV.get (fK (i / 65536)) O))) (dV.get (fK (i / 65536)) O)) O
noncomputable def OT.fn (O:OT) (i:Nat):Option ay:=bif Nat.ble 1048576 i then none else O.get i
noncomputable def OT.nil:OT:=dV.all (dV.all (dV.all (dV.all (dV.all none))))
theorem OT.sG {i:Nat} (hi:i < 1048576) (p:Option ay) (O:OT):(O.put i p).fn=bA O.fn i p:=by
 funext u;unfold OT.fn bA;by_cases hu:u < 1048576
 ·have hb:Nat.ble 1048576 u=false:=by cases h:Nat.ble 1048576 u;rfl;exact absurd (Nat.le_of_ble_eq_true h) (by omega)
  simp only [hb,cond_false,OT.get,OT.put,dV.get_put];by_cases e:u=i
  ·subst e;simp [dV.get_put]
  ·rw [if_neg e];by_cases h0:fK (i / 65536)=fK (u / 65536)
   ·have e0:=oo (by omega) (by omega) h0;rw [if_pos h0,dV.get_put,h0];by_cases h1:fK (i / 4096 % 16)=fK (u / 4096 % 16)
    ·have e1:=oo (by omega) (by omega) h1;rw [if_pos h1,dV.get_put,h1];by_cases h2:fK (i / 256 % 16)=fK (u / 256 % 16)
     ·have e2:=oo (by omega) (by omega) h2;rw [if_pos h2,dV.get_put,h2];by_cases h3:fK (i / 16 % 16)=fK (u / 16 % 16)
      ·have e3:=oo (by omega) (by omega) h3;rw [if_pos h3,dV.get_put,h3,if_neg (fun h4=>by have:=oo (by omega) (by omega) h4;omega)]
      ·rw [if_neg h3]
     ·rw [if_neg h2]
    ·rw [if_neg h1]
   ·rw [if_neg h0]
 ·have hb:Nat.ble 1048576 u=true:=Nat.ble_eq_true_of_le (by omega);simp only [hb,cond_true];rw [if_neg (by omega)]
theorem OT.Gr:OT.nil.fn=fun _=>none:=by
 funext t;unfold OT.fn OT.nil OT.get;simp only [dV.IJ];cases Nat.ble 1048576 t<;>rfl
end Go.Am
namespace Go.Am
set_option linter.unusedSectionVars false
variable {P:Program} [Gl]
def allT:List Bool→Bool
 | []=>true
 | b::r=>match b with
   | true=>allT r
   | false=>false
theorem lC:∀{l:List Bool},allT l=true→∀b∈l,b=true
 | [],_,b,h=>by simp at h
 | x::r,h,b,hb=>by
   simp only [allT] at h;split at h
   ·rcases List.mem_cons.1 hb with rfl | hb
    ·rfl
    ·exact lC h b hb
   ·cases h
abbrev WG:=RT×OT×Nat
abbrev mG:=Nat→List RV→OT→Nat→Option (RV×OT×Nat)
noncomputable def qE (O:OT):List (Nat×ay)→OT
 | []=>O
 | (i,p)::r=>qE (O.put i (some p)) r
noncomputable def jO (R:RT) (dst:Option Nat) (v:RV):RT:=
 match dst with
 | none=>R
 | some d=>R.put d v
def oq:List (Nat×ay)→Bool
 | []=>true
 | (i,_)::r=>bif Nat.ble i 1048575 then oq r else false
def Rb (nx:Nat):List (Nat×ay)→Nat
 | []=>nx
 | u=>nx+(u.length+1)
noncomputable def yN (R:RT) (O:OT) (nx:Nat) (dst:Option Nat) (r:Option (cB×Bool)):Option WG:=
 match r with
 | none=>none
 | some (res,_)=>match res with
   | { val:=v,upd:=u,conds:=c }=>bif allT c then
       match u with
       | []=>some (jO R dst v,O,nx)
       | _::_=>bif oq u then some (jO R dst v,qE O u,Rb nx u) else none
     else none
noncomputable def IK (cf:eu) (has:Nat→Bool) (call:mG) (ops:Array Oper) (R:RT) (O:OT) (nx:Nat) (o:Oper):Option WG:=
 match guardOf R.fn ops o with
 | none=>none
 | some false=>some (jO R o.dst .und,O,nx)
 | some true=>match o.op with
   | .move x=>some (jO R o.dst (aL R.fn x),O,nx)
   | .assign x=>some (jO R o.dst (aL R.fn x),O,nx)
   | .call c=>match c.callee with
     | .value f=>match aL R.fn f with
       | .gG (.func g) first caps=>bif cf.eY g then
          match (bif has g then iy cf.K (cf.dw g) O.fn nx g (first++c.args.toList.map (aL R.fn)++caps) else none) with
          | some res=>yN R O nx o.dst (some (res,false))
          | none=>match call g (first++c.args.toList.map (aL R.fn)++caps) O nx with
            | some (v,O',nx')=>some (jO R o.dst v,O',nx')
            | none=>none
         else none
       | _=>none
     | _=>yN R O nx o.dst (mR cf R.fn O.fn nx o)
   | _=>yN R O nx o.dst (mR cf R.fn O.fn nx o)
noncomputable def Gs (cf:eu) (has:Nat→Bool) (call:mG) (ops:Array Oper):List Oper→RT→OT→Nat→Option WG
 | [],R,O,nx=>some (R,O,nx)
 | o::r,R,O,nx=>match IK cf has call ops R O nx o with
   | some (R',O',nx')=>Gs cf has call ops r R' O' nx'
   | none=>none
noncomputable def vQ (cf:eu) (ops:Array Oper) (O:Tab):List Oper→RT→Option RT
 | [],R=>some R
 | o::r,R=>match kL cf ops [] R.fn O o with
   | none=>none
   | some (v,c,_)=>bif allT c then vQ cf ops O r (jO R o.dst v) else none
noncomputable def vE (cf:eu) (ops:Array Oper) (n z:Nat):List Oper→RT→OT→List (List Nat×List Nat)→Option (RT×OT×List (List Nat×List Nat))
 | [],R,O,rs=>some (R,O,rs)
 | o::r,R,O,rs=>match qR cf ops [] R.fn (nO (foot R.fn O.fn o) O.fn) (bD n z o) o with
   | none=>none
   | some (v,u,c,_)=>bif allT c&&oq u&&lN O.fn (foot R.fn O.fn o) (bD n z o::(bD n z o+1)::bG u) then
      vE cf ops n z r (jO R o.dst v) (qE O u) (rs++[(foot R.fn O.fn o++bD n z o::(bD n z o+1)::bG u,bG u)])
     else none
def fQ (o:Oper):Bool:=match o.op with
 | .call _=>match o.op with
   | .call c=>match c.callee with
     | .builtin b=>match b with
       | .append=>false
       | .copy=>false
       | .clear=>false
       | .delete=>false
       | _=>true
     | _=>false
   | _=>false
 | .alloc _=>false
 | .box _ _=>false
 | .buildSlice _ _ _=>false
 | .store _ _ _=>false
 | .makeSlice _ _ _=>false
 | .makeMap _ _=>false
 | .mapUpdate _ _ _ _=>false
 | .convert _ _ _=>false
 | _=>true
def Pq:List Oper→Nat→Nat
 | [],m=>m
 | o::r,m=>match o.dst with
   | some d=>Pq r (bif Nat.ble d m then d else m)
   | none=>Pq r m
def Sg:List Oper→Nat→Nat
 | [],m=>m
 | o::r,m=>match o.dst with
   | some d=>Sg r (bif Nat.ble m d then d else m)
   | none=>Sg r m
noncomputable def AJ:Nat→List ay→OT→OT
 | _,[],O=>O
 | i,p::r,O=>AJ (i+1) r (O.put i (some p))
def collect (m:Nat) (r:RV) (O:Tab):Option (RV×List ay):=
 let ps:=List.range m++(reach O 400 (r.refs 6++(List.range m).flatMap fun i=>tF (O i)) []).filter (fun i=>Nat.ble m i)
 bif nodupB ps then
  match r.ren (fun i=>idx i ps 0) 6,eX (fun i=>match O i with | some p=>p.ren (fun i=>idx i ps 0) | none=>none) ps with
  | some r',some os=>some (r',os)
  | _,_=>none
 else none
noncomputable def JQ (call:mG):uI:=fun f args objs=>
 bif Nat.ble objs.length 4000 then
  match call f args (AJ 0 objs OT.nil) 4096 with
  | some (r,O',_)=>match collect objs.length r O'.fn with
    | some (r',os)=>some (r',os,[])
    | none=>none
  | none=>none
 else none
noncomputable def CS (cf:eu) (has:Nat→Bool) (call:mG) (n:Nat) (ops:Array Oper) (draw:Bool) (R:RT) (O:OT) (nx:Nat):Option WG:=
 bif dx n ops then
  match draw with
  | false=>Gs cf has call ops ops.toList R O nx
  | true=>bif iQ ops then
     bif ops.toList.all fQ then
      match vQ cf ops O.fn ops.toList R with
      | some R'=>some (R',O,nx)
      | none=>none
     else match vE { cf with K:=Xj cf.K (JQ call),dw:=fun _=>true,diff:=true } ops n (nx-32*Pq ops.toList n) ops.toList R O [] with
      | some (R',O',rs)=>bif pG rs (zS ops.toList []) then some (R',O',nx+32*(Sg ops.toList 0+2-Pq ops.toList n)) else none
      | none=>none
    else none
 else none
noncomputable def AL:Nat→List RV→RT→RT
 | _,[],R=>R
 | i,v::r,R=>AL (i+1) r (R.put i v)
end Go.Am
namespace Go.Am
set_option linter.unusedSectionVars false
variable {P:Program} [Gl] [Df]
theorem ug {R:Nat→RV} {dst:Option Nat} {v:RV} {d:Nat} (h:dst≠some d):jc R dst v d=R d:=by
 cases dst with
 | none=>rfl
 | some e=>
   have:d≠e:=fun x=>h (by rw [x])
   simp [jc,jl,this]
theorem CU {R:Nat→RV} {dst:Option Nat} {v:RV} {d:Nat} (h:dst=some d):jc R dst v d=v:=by
 subst h;simp [jc,jl]
def uh (cf:eu) (ops:Array Oper) (ov:Ov) (O:Tab):List Oper→(Nat→RV)→List Bool→List (RV×RV)→Option ((Nat→RV)×List Bool×List (RV×RV))
 | [],R,cs,es=>some (R,cs,es)
 | o::r,R,cs,es=>match kL cf ops ov R O o with
   | none=>none
   | some (v,c,e)=>uh cf ops ov O r (jc R o.dst v) (cs++c) (es++e)
theorem sH {cf:eu} {ops:Array Oper} {ov:Ov} {O:Tab}:∀(l:List Oper) (R R' : Nat→RV) (cs cs' : List Bool) (es es' : List (RV×RV)),uh cf ops ov O l R cs es=some (R',cs',es')→
 (∀c∈cs,c∈cs')∧(∀e∈es,e∈es')∧(∀d,(∀o∈l,o.dst≠some d)→R' d=R d)
 | [],R,R',cs,cs',es,es',h=>by
   simp [uh] at h;obtain ⟨rfl,rfl,rfl⟩:=h;exact ⟨fun _ h=>h,fun _ h=>h,fun _ _=>rfl⟩
 | o::r,R,R',cs,cs',es,es',h=>by
   simp only [uh] at h;cases h1:kL cf ops ov R O o with
   | none=>rw [h1] at h;simp at h
   | some p=>
     obtain ⟨v,c,e⟩:=p;rw [h1] at h;simp only at h;obtain ⟨q1,q2,q3⟩:=sH r _ _ _ _ _ _ h;refine ⟨fun c hc=>q1 c (by simp [hc]),fun e he=>q2 e (by simp [he]),fun d hh=>?_⟩;rw [q3 d (fun o ho=>hh o (by simp [ho])),ug (hh o (by simp))]
theorem EM {cf:eu} {ops:Array Oper} {ov:Ov} {O:Tab}:∀(l:List Oper) (R0 R' : Nat→RV) (cs cs' : List Bool) (es es' : List (RV×RV)),uh cf ops ov O l R0 cs es=some (R',cs',es')→
 (∀(i j:Nat) (p q:Oper) (d:Nat),l[i]? = some p→l[j]? = some q→p.dst=some d→q.dst=some d→i=j)→
 ∀(j:Nat) (o:Oper),l[j]? = some o→∃(R:Nat→RV) (v:RV) (c:List Bool) (e:List (RV×RV)),kL cf ops ov R O o=some (v,c,e)∧(∀x∈c,x∈cs')∧(∀x∈e,x∈es')∧
  (∀d,o.dst=some d→R' d=v)∧(∀d,(∀(i:Nat) (p:Oper),i < j→l[i]? = some p→p.dst≠some d)→R d=R0 d)∧
  (∀(i:Nat) (p:Oper) (d:Nat),i < j→l[i]? = some p→p.dst=some d→R d=R' d)
 | [],R0,R',cs,cs',es,es',h,hnd,j,o,hj=>by simp at hj
 | o0::r,R0,R',cs,cs',es,es',h,hnd,j,o,hj=>by
   simp only [uh] at h;cases h1:kL cf ops ov R0 O o0 with
   | none=>rw [h1] at h;simp at h
   | some p=>
     obtain ⟨v,c,e⟩:=p;rw [h1] at h;simp only at h
     have hnd' : ∀(i j:Nat) (p q:Oper) (d:Nat),r[i]? = some p→r[j]? = some q→p.dst=some d→q.dst=some d→i=j:=fun i j p q d hi hj' hp hq=>by
      have:=hnd (i+1) (j+1) p q d (by simpa using hi) (by simpa using hj') hp hq;omega
     obtain ⟨m1,m2,m3⟩:=sH r _ _ _ _ _ _ h;cases j with
     | zero=>
       simp at hj;subst hj;refine ⟨R0,v,c,e,h1,fun x hx=>m1 x (by simp [hx]),fun x hx=>m2 x (by simp [hx]),fun d hd=>?_,fun d _=>rfl,fun i p d hi=>by omega⟩
       rw [m3 d (fun q hq qQ=>by
        obtain ⟨k,hk⟩:=List.mem_iff_getElem?.1 hq
        have:=hnd 0 (k+1) o0 q d rfl (by simpa using hk) hd qQ;omega)]
       exact CU hd
     | succ j=>
       obtain ⟨R,v',c',e',k1,k2,k3,k4,k5,k6⟩:=EM r _ R' _ _ _ _ h hnd' j o (by simpa using hj);refine ⟨R,v',c',e',k1,k2,k3,k4,fun d hd=>?_,fun i p d hi hp wU=>?_⟩
       ·rw [k5 d (fun i p hi hp=>hd (i+1) p (by omega) (by simpa using hp)),ug (hd 0 o0 (by omega) rfl)]
       ·cases i with
        | zero=>
          simp at hp;subst hp
          rw [k5 d (fun i q hi hq qQ=>by
           have:=hnd 0 (i+1) o0 q d rfl (by simpa using hq) wU qQ;omega)]
          rw [m3 d (fun q hq qQ=>by
           obtain ⟨k,hk⟩:=List.mem_iff_getElem?.1 hq
           have:=hnd 0 (k+1) o0 q d rfl (by simpa using hk) wU qQ;omega)]
        | succ i=>exact k6 i p d (by omega) (by simpa using hp) wU
theorem Gt {cf:eu} (hcf:jI P cf) {ops:Array Oper} {ov:Ov} {s:bQ} {R0 R' : Nat→RV} {cs:List Bool} {es:List (RV×RV)} {m:Nat} {κ0:bB} {w0:World} {φ0:bJ}
 (hq:iQ ops=true) (hg:dx s.n ops=true) (hs:s.R=R0) (hrun:uh cf ops ov s.O ops.toList R0 [] []=some (R',cs,es)) (hc:∀c∈cs,c=true) (he:∀e∈es,iI e.1 e.2) :
 (∀(fuel:Nat) (L:Array Bool) (κ:bB) (φ:bJ) (w:World) (a:Act),L.size=ops.size→L.toList.countP (· == false)=fuel→
   (∀(j:Nat) (o:Oper),ops[j]? = some o→L.getD j false=true→∀e∈o.after,Region.binds .any e=true→L.getD e.on false=true)→aC κ φ w { s with R:=bN ops s.R R' L } a→
   Fr κ0 w0 κ w→nS m φ0 s.O φ s.O→
   wpAny P .any ops (fun e a' w'=>e = .normal∧∃κ' φ',aC κ' φ' w' { s with R:=R' } a'∧Fr κ0 w0 κ' w'∧nS m φ0 s.O φ' s.O) fuel L a w):=by
 have hnd:∀(i j:Nat) (p q:Oper) (d:Nat),ops.toList[i]? = some p→ops.toList[j]? = some q→p.dst=some d→q.dst=some d→i=j:=by
  intro i j p q d hi hj hp qQ;rcases ((bX hq (j:=j) (o:=q) (by simpa using hj)).2 i p d (by simpa using hi) hp).1 with h | h
  ·exact h
  ·exact absurd qQ h
 have hat:=EM ops.toList R0 R' [] cs [] es hrun hnd;have hout:=(sH ops.toList R0 R' [] cs [] es hrun).2.2
 have full:∀(L:Array Bool),L.size=ops.size→(∀i,i < ops.size→L.getD i true=true)→bN ops s.R R' L=R':=by
  intro L hL hall;funext d;unfold bN;split
  ·rfl
  ·rename_i hne;rw [hs,hout d (fun o ho hd=>hne ?_)];obtain ⟨i,hi⟩:=List.mem_iff_getElem?.1 ho;have hi' : ops[i]? = some o:=by simpa using hi
   have hlt:=(Array.getElem?_eq_some_iff.1 hi').1;have hlt2:i < L.size:=by omega
   have:=hall i hlt
   exact ⟨i,o,hi',hd,by simp [Array.getD,hlt2] at this ⊢;exact this⟩
 intro fuel;induction fuel with
 | zero=>
   intro L κ φ w a hL hcnt hcl F hR hK;have hall:=lK hcnt;rw [full L hL (fun i hi=>hall i (by omega))] at F;refine ⟨?_,rfl,κ,φ,F,hR,hK⟩;cases hr:Region.ready .any ops L with
   | nil=>rfl
   | cons i r=>
     obtain ⟨o,_,h1,h2,_⟩:=mem_ready (md:=.any) (ops:=ops) (L:=L) (i:=i) (by rw [hr];simp);rw [hall i (by omega)] at h2;cases h2
 | succ fuel ih=>
   intro L κ φ w a hL hcnt hcl F hR hK;refine ⟨fun hr=>?_,fun j hj=>?_⟩
   ·have hall:=ready_nil hL (fun j o ho=>(bX hq ho).1) hr;rw [full L hL hall] at F;exact ⟨rfl,κ,φ,F,hR,hK⟩
   ·obtain ⟨o,ho,hjn,hlj,iJ⟩:=mem_ready hj;obtain ⟨R,v,c,e,k1,k2,k3,k4,k5,k6⟩:=hat j o (by simpa using ho);obtain ⟨s1,s2⟩:=bX hq ho
    have same:∀d,d∈looks o ops→bN ops s.R R' L d=R d:=by
     intro d hd;by_cases hw:∃(i:Nat) (p:Oper),ops[i]? = some p∧p.dst=some d
     ·obtain ⟨i,p,hi,hp⟩:=hw;rcases (s2 i p d hi hp).2 hd with ⟨hij,ed,he1,he2,yE⟩ | ⟨hij,ed,he1,he2,yE⟩
      ·have Pm:L.getD i false=true:=by rw [←he2];exact iJ ed he1 yE
       unfold bN;rw [if_pos ⟨i,p,hi,hp,Pm⟩];exact (k6 i p d hij (by simpa using hi) hp).symm
      ·have pq:L.getD j false=false:=by
        have:j < L.size:=by omega
        simp [Array.getD,this] at hlj ⊢;exact hlj
       have only:∀(i' : Nat) (p' : Oper),ops[i']? = some p'→p'.dst=some d→i'=i:=fun i' p' h1 h2=>hnd i' i p' p d (by simpa using h1) (by simpa using hi) h2 hp;unfold bN
       rw [if_neg (fun ⟨i',p',h1,h2,h3⟩=>by
        have e:=only i' p' h1 h2;subst e;rw [h1] at hi;injection hi with hi;subst hi
        have:=hcl i' p' h1 h3 ed he1 yE
        rw [he2,pq] at this;cases this),hs]
       exact (k5 d (fun i' p' h0 h1 h2=>by have:=only i' p' (by simpa using h1) h2;omega)).symm
     ·unfold bN;rw [if_neg (fun ⟨i,p,hi,hp,_⟩=>hw ⟨i,p,hi,hp⟩),hs];exact (k5 d (fun i p _ hp wU=>hw ⟨i,p,by simpa using hp,wU⟩)).symm
    have LG:kL cf ops ov (bN ops s.R R' L) s.O o=some (v,c,e):=by
     rw [←k1]
     have h1:guardOf (bN ops s.R R' L) ops o=guardOf R ops o:=by
      unfold guardOf;cases hgu:o.guard with
      | none=>rfl
      | some p=>
        obtain ⟨g,want⟩:=p;simp only;cases hog:ops[g]? with
        | none=>rfl
        | some gg=>
          simp only;cases hgd:gg.dst with
          | none=>rfl
          | some d=>
            simp only;rw [same d (by simp only [looks,List.mem_append];right;rw [hgu];simp only [hog,hgd];simp)]
     have h2:mR cf (bN ops s.R R' L) s.O 0 o=mR cf R s.O 0 o:=og fun x hx=>lJ fun d hd=>by
      subst hd;refine same d ?_;simp only [looks,List.mem_append,List.mem_filterMap];left;exact ⟨.tmp d,by simpa using hx,rfl⟩
     unfold kL;rw [h1,h2]
    refine Cn hcf F LG (fun x hx=>hc x (k2 x hx)) (fun x hx=>he x (k3 x hx)) ho (bZ hg) (fun a' w' κ' φ' g1 g2 g3=>?_)
    have hset:jc (bN ops s.R R' L) o.dst v=bN ops s.R R' (L.setIfInBounds j true):=by
     funext d
     have hget:∀i,(L.setIfInBounds j true).getD i false=if i=j then true else L.getD i false:=by
      intro i;simp only [Array.getD_eq_getD_getElem?,Array.getElem?_setIfInBounds];by_cases e:i=j
      ·subst e;have:i < L.size:=by omega
       simp [this]
      ·have:¬j=i:=fun h=>e h.symm
       simp [e,this]
     cases hd:o.dst with
     | none=>
       simp only [jc];unfold bN;congr 1;apply propext;constructor
       ·rintro ⟨i,p,h1,h2,h3⟩
        exact ⟨i,p,h1,h2,by rw [hget];split;rfl;exact h3⟩
       ·rintro ⟨i,p,h1,h2,h3⟩
        rw [hget] at h3;by_cases e:i=j
        ·subst e;rw [ho] at h1;injection h1 with h1;subst h1;rw [hd] at h2;cases h2
        ·rw [if_neg e] at h3;exact ⟨i,p,h1,h2,h3⟩
     | some d0=>
       simp only [jc,jl];by_cases e0:d=d0
       ·subst e0;rw [if_pos rfl];unfold bN;rw [if_pos ⟨j,o,ho,hd,by rw [hget];simp⟩,k4 d hd]
       ·rw [if_neg e0];unfold bN;congr 1;apply propext;constructor
        ·rintro ⟨i,p,h1,h2,h3⟩
         exact ⟨i,p,h1,h2,by rw [hget];split;rfl;exact h3⟩
        ·rintro ⟨i,p,h1,h2,h3⟩
         rw [hget] at h3;by_cases e:i=j
         ·subst e;rw [ho] at h1;injection h1 with h1;subst h1;rw [hd] at h2;injection h2 with h2;exact absurd h2.symm e0
         ·rw [if_neg e] at h3;exact ⟨i,p,h1,h2,h3⟩
    have g1' : aC κ' φ' w' { s with R:=bN ops s.R R' (L.setIfInBounds j true) } a':=by rw [←hset];exact g1
    have hc2:=count_set (L:=L) (i:=j) (by omega) hlj
    have hget:∀i,(L.setIfInBounds j true).getD i false=if i=j then true else L.getD i false:=by
     intro i;simp only [Array.getD_eq_getD_getElem?,Array.getElem?_setIfInBounds];by_cases e:i=j
     ·subst e;have:i < L.size:=by omega
      simp [this]
     ·have:¬j=i:=fun h=>e h.symm
      simp [e,this]
    have hcl' : ∀(j' : Nat) (o' : Oper),ops[j']? = some o'→(L.setIfInBounds j true).getD j' false=true→∀e∈o'.after,Region.binds .any e=true→(L.setIfInBounds j true).getD e.on false=true:=by
     intro j' o' ho' hl' e he' hb';rw [hget] at hl' ⊢;split
     ·rfl
     ·by_cases ej:j'=j
      ·subst ej;rw [ho] at ho';injection ho' with ho';subst ho';exact iJ e he' hb'
      ·rw [if_neg ej] at hl';exact hcl j' o' ho' hl' e he' hb'
    exact ih (L.setIfInBounds j true) κ' φ' w' a' (by simpa using hL) (by omega) hcl' g1' (hR.trans g2) (hK.trans (g3.m m))
def rP (cf:eu) (ops:Array Oper) (ov:Ov) (n z:Nat):List Oper→(Nat→RV)→Tab→List Bool→List (RV×RV)→List (List Nat×List Nat)→Option ((Nat→RV)×Tab×List Bool×List (RV×RV)×List (List Nat×List Nat))
 | [],R,O,cs,es,rs=>some (R,O,cs,es,rs)
 | o::r,R,O,cs,es,rs=>
   match qR cf ops ov R (nO (foot R O o) O) (bD n z o) o with
   | none=>none
   | some (v,u,c,e)=>
     bif lN O (foot R O o) (bD n z o::(bD n z o+1)::bG u) then
      rP cf ops ov n z r (jc R o.dst v) (aV O u) (cs++c) (es++e) (rs++[(foot R O o++bD n z o::(bD n z o+1)::bG u,bG u)])
     else none
theorem sI {cf:eu} {ops:Array Oper} {ov:Ov} {n z:Nat}:∀(l:List Oper) (R R' : Nat→RV) (O O' : Tab) (cs cs' : List Bool) (es es' : List (RV×RV)) (rs rs' : List (List Nat×List Nat)),
 rP cf ops ov n z l R O cs es rs=some (R',O',cs',es',rs')→(∀c∈cs,c∈cs')∧(∀e∈es,e∈es')∧(∀d,(∀o∈l,o.dst≠some d)→R' d=R d)
 | [],R,R',O,O',cs,cs',es,es',rs,rs',h=>by
   simp [rP] at h;obtain ⟨rfl,rfl,rfl,rfl,rfl⟩:=h;exact ⟨fun _ h=>h,fun _ h=>h,fun _ _=>rfl⟩
 | o::r,R,R',O,O',cs,cs',es,es',rs,rs',h=>by
   simp only [rP] at h;split at h
   ·simp at h
   ·rename_i v u c e h1;cases hb0:(lN O (foot R O o) (bD n z o::(bD n z o+1)::bG u)) with
    | false=>rw [hb0] at h;simp at h
    | true=>
      rw [hb0] at h;simp only [cond_true] at h;obtain ⟨q1,q2,q3⟩:=sI r _ _ _ _ _ _ _ _ _ _ h;refine ⟨fun c hc=>q1 c (by simp [hc]),fun e he=>q2 e (by simp [he]),fun d hh=>?_⟩;rw [q3 d (fun o ho=>hh o (by simp [ho])),ug (hh o (by simp))]
theorem EN {cf:eu} {ops:Array Oper} {ov:Ov} {n z:Nat}:∀(l:List Oper) (R0 R' : Nat→RV) (O0 O' : Tab) (cs cs' : List Bool) (es es' : List (RV×RV)) (rs rs' : List (List Nat×List Nat)),
 rP cf ops ov n z l R0 O0 cs es rs=some (R',O',cs',es',rs')→
 (∀(i j:Nat) (p q:Oper) (d:Nat),l[i]? = some p→l[j]? = some q→p.dst=some d→q.dst=some d→i=j)→
 ∃(us:List (List (Nat×ay))) (rr:List (List Nat×List Nat)),us.length=l.length∧rs'=rs++rr∧rr.length=l.length∧O'=us.foldl aV O0∧
 ∀(j:Nat) (o:Oper),l[j]? = some o→∃(R:Nat→RV) (F:List Nat) (v:RV) (u:List (Nat×ay)) (c:List Bool) (e:List (RV×RV)),
  qR cf ops ov R (nO F ((us.take j).foldl aV O0)) (bD n z o) o=some (v,u,c,e)∧us[j]? = some u∧rr[j]? = some (F++bD n z o::(bD n z o+1)::bG u,bG u)∧
  lN ((us.take j).foldl aV O0) F (bD n z o::(bD n z o+1)::bG u)=true∧(∀x∈c,x∈cs')∧(∀x∈e,x∈es')∧
  (∀d,o.dst=some d→R' d=v)∧(∀d,(∀(i:Nat) (p:Oper),i < j→l[i]? = some p→p.dst≠some d)→R d=R0 d)∧
  (∀(i:Nat) (p:Oper) (d:Nat),i < j→l[i]? = some p→p.dst=some d→R d=R' d)
 | [],R0,R',O0,O',cs,cs',es,es',rs,rs',h,hnd=>by
   simp [rP] at h;obtain ⟨rfl,rfl,rfl,rfl,rfl⟩:=h;exact ⟨[],[],rfl,by simp,rfl,rfl,fun j o hj=>by simp at hj⟩
 | o0::r,R0,R',O0,O',cs,cs',es,es',rs,rs',h,hnd=>by
   simp only [rP] at h;split at h
   ·simp at h
   ·rename_i v u c e h1;cases hb0:(lN O0 (foot R0 O0 o0) (bD n z o0::(bD n z o0+1)::bG u)) with
    | false=>rw [hb0] at h;simp at h
    | true=>
      rw [hb0] at h;simp only [cond_true] at h
      have hnd' : ∀(i j:Nat) (p q:Oper) (d:Nat),r[i]? = some p→r[j]? = some q→p.dst=some d→q.dst=some d→i=j:=fun i j p q d hi hj' hp hq=>by
       have:=hnd (i+1) (j+1) p q d (by simpa using hi) (by simpa using hj') hp hq;omega
      obtain ⟨m1,m2,m3⟩:=sI r _ _ _ _ _ _ _ _ _ _ h;obtain ⟨us,rr,a1,a2,a3,a4,a5⟩:=EN r _ R' _ _ _ _ _ _ _ _ h hnd';refine ⟨u::us,(foot R0 O0 o0++bD n z o0::(bD n z o0+1)::bG u,bG u)::rr,by simp [a1],by rw [a2];simp,by simp [a3],by rw [a4];rfl,fun j o hj=>?_⟩;cases j with
      | zero=>
        simp at hj;subst hj;refine ⟨R0,foot R0 O0 o0,v,u,c,e,h1,rfl,rfl,hb0,fun x hx=>m1 x (by simp [hx]),fun x hx=>m2 x (by simp [hx]),fun d hd=>?_,fun d _=>rfl,fun i p d hi=>by omega⟩
        rw [m3 d (fun q hq qQ=>by
         obtain ⟨k,hk⟩:=List.mem_iff_getElem?.1 hq
         have:=hnd 0 (k+1) o0 q d rfl (by simpa using hk) hd qQ;omega)]
        exact CU hd
      | succ j=>
        obtain ⟨R,F,v',u',c',e',k1,k2,k3,k4,k5,k6,k7,k8,k9⟩:=a5 j o (by simpa using hj);refine ⟨R,F,v',u',c',e',by simpa using k1,by simpa using k2,by simpa using k3,by simpa using k4,k5,k6,k7,fun d hd=>?_,fun i p d hi hp wU=>?_⟩
        ·rw [k8 d (fun i p hi hp=>hd (i+1) p (by omega) (by simpa using hp)),ug (hd 0 o0 (by omega) rfl)]
        ·cases i with
         | zero=>
           simp at hp;subst hp
           rw [k8 d (fun i q hi hq qQ=>by
            have:=hnd 0 (i+1) o0 q d rfl (by simpa using hq) wU qQ;omega)]
           rw [m3 d (fun q hq qQ=>by
            obtain ⟨k,hk⟩:=List.mem_iff_getElem?.1 hq
            have:=hnd 0 (k+1) o0 q d rfl (by simpa using hk) wU qQ;omega)]
         | succ i=>exact k9 i p d (by omega) (by simpa using hp) wU
theorem LW {cf:eu} (hcf:jI P cf) {ops:Array Oper} {ov:Ov} {s:bQ} {R0 R' : Nat→RV} {O0 O' : Tab} {cs:List Bool} {es:List (RV×RV)} {rs:List (List Nat×List Nat)} {z m:Nat} {κ:bB} {φ:bJ} {w:World} {a:Act}
 (hq:iQ ops=true) (hg:dx s.n ops=true) (hs:s.R=R0) (hsO:s.O=O0) (hrun:rP cf ops ov s.n z ops.toList R0 O0 [] [] []=some (R',O',cs,es,rs))
 (hrows:pG rs (zS ops.toList [])=true) (hc:∀c∈cs,c=true) (he:∀e∈es,iI e.1 e.2) (F0:aC κ φ w s a) :
 wpAny P .any ops (fun e a' w'=>e = .normal∧∃κ' φ',aC κ' φ' w' { s with R:=R',O:=O' } a'∧Fr κ w κ' w'∧nS m φ s.O φ' O') ops.size (Array.replicate ops.size false) a w:=by
 have hnd:∀(i j:Nat) (p q:Oper) (d:Nat),ops.toList[i]? = some p→ops.toList[j]? = some q→p.dst=some d→q.dst=some d→i=j:=by
  intro i j p q d hi hj hp qQ;rcases ((bX hq (j:=j) (o:=q) (by simpa using hj)).2 i p d (by simpa using hi) hp).1 with h | h
  ·exact h
  ·exact absurd qQ h
 obtain ⟨us,rr,ul,hrs,rl,El,hat⟩:=EN ops.toList R0 R' O0 O' [] cs [] es [] rs hrun hnd;rw [List.nil_append] at hrs;subst hrs;have hout:=(sI ops.toList R0 R' O0 O' [] cs [] es [] rs hrun).2.2;have ZG:us.length=ops.size:=by simpa using ul
 have LJ:=qA (ops:=ops) ops.toList [] (fun i o hi=>by simpa using hi) (fun i k h=>by simp at h)
 have full:∀(L:Array Bool),L.size=ops.size→(∀i,i < ops.size→L.getD i true=true)→bN ops s.R R' L=R'∧iB (fun i=>L.getD i false) 0 us s.O=O':=by
  intro L hL hall
  have EG:∀i,i < ops.size→L.getD i false=true:=fun i hi=>by
   have hlt2:i < L.size:=by omega
   have:=hall i hi
   simp [Array.getD,hlt2] at this ⊢;exact this
  constructor
  ·funext d;unfold bN;split
   ·rfl
   ·rename_i hne;rw [hs,hout d (fun o ho hd=>hne ?_)];obtain ⟨i,hi⟩:=List.mem_iff_getElem?.1 ho;have hi' : ops[i]? = some o:=by simpa using hi
    exact ⟨i,o,hi',hd,EG i (Array.getElem?_eq_some_iff.1 hi').1⟩
  ·rw [El,hsO];funext i;have e1:=nN us 0 us.length O0;rw [List.take_length] at e1;rw [←e1];refine lM us 0 _ _ rfl (fun j u hu _=>?_);have hj:=(List.getElem?_eq_some_iff.1 hu).1;rw [Nat.zero_add,EG j (by omega)];simp [hj]
 have main:∀(fuel:Nat) (L:Array Bool) (κ1:bB) (φ1:bJ) (w1:World) (a1:Act),L.size=ops.size→L.toList.countP (· == false)=fuel→
  (∀(j:Nat) (o:Oper),ops[j]? = some o→L.getD j false=true→∀e∈o.after,Region.binds .any e=true→L.getD e.on false=true)→
  aC κ1 φ1 w1 { s with R:=bN ops s.R R' L,O:=iB (fun i=>L.getD i false) 0 us s.O } a1→
  Fr κ w κ1 w1→nS m φ s.O φ1 (iB (fun i=>L.getD i false) 0 us s.O)→
  wpAny P .any ops (fun e a' w'=>e = .normal∧∃κ' φ',aC κ' φ' w' { s with R:=R',O:=O' } a'∧Fr κ w κ' w'∧nS m φ s.O φ' O') fuel L a1 w1:=by
  intro fuel;induction fuel with
  | zero=>
    intro L κ1 φ1 w1 a1 hL hcnt hcl F hR hK;have hall:=lK hcnt;obtain ⟨f1,f2⟩:=full L hL (fun i hi=>hall i (by omega));rw [f1,f2] at F;rw [f2] at hK;refine ⟨?_,rfl,κ1,φ1,F,hR,hK⟩;cases hr:Region.ready .any ops L with
    | nil=>rfl
    | cons i r=>
      obtain ⟨o,_,h1,h2,_⟩:=mem_ready (md:=.any) (ops:=ops) (L:=L) (i:=i) (by rw [hr];simp);rw [hall i (by omega)] at h2;cases h2
  | succ fuel ih=>
    intro L κ1 φ1 w1 a1 hL hcnt hcl F hR hK;refine ⟨fun hr=>?_,fun j hj=>?_⟩
    ·have hall:=ready_nil hL (fun j o ho=>(bX hq ho).1) hr;obtain ⟨f1,f2⟩:=full L hL hall;rw [f1,f2] at F;rw [f2] at hK;exact ⟨rfl,κ1,φ1,F,hR,hK⟩
    ·obtain ⟨o,ho,hjn,hlj,iJ⟩:=mem_ready hj;obtain ⟨R,Fj,v,u,c,e,k1,k2,k3,k4,kc,ke,k5,k6,k7⟩:=hat j o (by simpa using ho);obtain ⟨s1,s2⟩:=bX hq ho
     have pq:L.getD j false=false:=by
      have:j < L.size:=by omega
      simp [Array.getD,this] at hlj ⊢;exact hlj
     have same:∀d,d∈looks o ops→bN ops s.R R' L d=R d:=by
      intro d hd;by_cases hw:∃(i:Nat) (p:Oper),ops[i]? = some p∧p.dst=some d
      ·obtain ⟨i,p,hi,hp⟩:=hw;rcases (s2 i p d hi hp).2 hd with ⟨hij,ed,he1,he2,yE⟩ | ⟨hij,ed,he1,he2,yE⟩
       ·have Pm:L.getD i false=true:=by rw [←he2];exact iJ ed he1 yE
        unfold bN;rw [if_pos ⟨i,p,hi,hp,Pm⟩];exact (k7 i p d hij (by simpa using hi) hp).symm
       ·have only:∀(i' : Nat) (p' : Oper),ops[i']? = some p'→p'.dst=some d→i'=i:=fun i' p' h1 h2=>hnd i' i p' p d (by simpa using h1) (by simpa using hi) h2 hp;unfold bN
        rw [if_neg (fun ⟨i',p',h1,h2,h3⟩=>by
         have e:=only i' p' h1 h2;subst e;rw [h1] at hi;injection hi with hi;subst hi
         have:=hcl i' p' h1 h3 ed he1 yE
         rw [he2,pq] at this;cases this),hs]
        exact (k6 d (fun i' p' h0 h1 h2=>by have:=only i' p' (by simpa using h1) h2;omega)).symm
      ·unfold bN;rw [if_neg (fun ⟨i,p,hi,hp,_⟩=>hw ⟨i,p,hi,hp⟩),hs];exact (k6 d (fun i p _ hp wU=>hw ⟨i,p,by simpa using hp,wU⟩)).symm
     have CG:guardOf (bN ops s.R R' L) ops o=guardOf R ops o:=by
      unfold guardOf;cases hgu:o.guard with
      | none=>rfl
      | some p=>
        obtain ⟨g,want⟩:=p;simp only;cases hog:ops[g]? with
        | none=>rfl
        | some gg=>
          simp only;cases hgd:gg.dst with
          | none=>rfl
          | some d=>
            simp only;rw [same d (by simp only [looks,List.mem_append];right;rw [hgu];simp only [hog,hgd];simp)]
     have LK:∀x∈o.op.operands,aL R x=aL (bN ops s.R R' L) x:=fun x hx=>lJ fun d hd=>by
      subst hd;refine (same d ?_).symm;simp only [looks,List.mem_append,List.mem_filterMap];left;exact ⟨.tmp d,by simpa using hx,rfl⟩
     have rowAt:∀(x:Nat) (u' : List (Nat×ay)),us[x]? = some u'→∃tx,rs[x]? = some (tx,bG u')∧∀i∈bG u',i∈tx:=by
      intro x u' hu';have hx:=(List.getElem?_eq_some_iff.1 hu').1;have hox:ops.toList[x]? = some ops.toList[x]:=by simp [show x < ops.size by omega]
      obtain ⟨_,F',_,u2,_,_,_,g2,g3,_⟩:=hat x _ hox;rw [hu'] at g2;injection g2 with g2;subst g2;exact ⟨_,g3,fun i hi=>by simp [hi]⟩
     have before:∀(x:Nat) (u' : List (Nat×ay)) (i:Nat),x < j→us[x]? = some u'→i∈bG u'→i∈(Fj++bD s.n z o::(bD s.n z o+1)::bG u)→L.getD x false=true:=by
      intro x u' i hxj hu' hi ht;obtain ⟨tx,g1,_⟩:=rowAt x u' hu'
      exact (LJ j x (mE hrows k3 g1 hxj (.inl (xC hi ht)))).ready (L:=fun i=>L.getD i false) hcl (fun o' ho' e he hb=>by
       rw [ho] at ho';injection ho' with ho';subst ho';exact iJ e he hb)
     have after:∀(x:Nat) (u' : List (Nat×ay)) (i:Nat),j < x→us[x]? = some u'→i∈bG u'→i∈(Fj++bD s.n z o::(bD s.n z o+1)::bG u)→L.getD x false=false:=by
      intro x u' i hxj hu' hi ht;obtain ⟨tx,g1,_⟩:=rowAt x u' hu';cases hlx:L.getD x false with
      | false=>rfl
      | true=>
        have:=(LJ x j (mE hrows g1 k3 hxj (.inr (xC hi ht)))).done (L:=fun i=>L.getD i false) hcl hlx
        rw [pq] at this;cases this
     have agree:∀i,i∈(Fj++bD s.n z o::(bD s.n z o+1)::bG u)→iB (fun i=>L.getD i false) 0 us s.O i=(us.take j).foldl aV O0 i:=by
      intro i hi;have e1:=nN us 0 j O0;rw [←e1,hsO];refine lM us 0 _ _ rfl (fun x u' hu' hk=>?_);rw [Nat.zero_add,Nat.zero_add];rcases Nat.lt_trichotomy x j with h | h | h
      ·rw [before x u' i h hu' hk hi];simp [h]
      ·subst h;rw [pq];simp
      ·rw [after x u' i h hu' hk hi]
       have:¬x < j:=by omega
       simp [this]
     have su:∀i,i∈(bD s.n z o::(bD s.n z o+1)::bG u)→iB (fun i=>L.getD i false) 0 us s.O i=nO Fj ((us.take j).foldl aV O0) i:=by
      intro i hi;rw [agree i (List.mem_append.2 (.inr hi))];cases hF:(Fj.any fun j=>Nat.beq j i) with
      | true=>rw [tY hF]
      | false=>
        rw [qC hF]
        have:=List.all_eq_true.1 k4 i hi
        rw [hF] at this;simpa using this
     have hev:qR cf ops ov (bN ops s.R R' L) (iB (fun i=>L.getD i false) 0 us s.O) (bD s.n z o) o=some (v,u,c,e):=by
      refine Ay k1 CG LK (fun i p hp=>?_) (su _ (by simp)) (su _ (by simp)) (fun p hp=>su _ (by simp [bG];exact .inr (.inr ⟨p.2,hp⟩)));cases hF:(Fj.any fun j=>Nat.beq j i) with
      | true=>
        rw [tY hF] at hp;rw [agree i (List.mem_append.2 (.inl (IC hF)))];exact hp
      | false=>rw [qC hF] at hp;cases hp
     refine Iz hcf F hev (fun x hx=>hc x (kc x hx)) (fun x hx=>he x (ke x hx)) ho (bZ hg) (fun a' w' κ' φ' g1 g2 g3=>?_)
     have hget:∀i,(L.setIfInBounds j true).getD i false=if i=j then true else L.getD i false:=by
      intro i;simp only [Array.getD_eq_getD_getElem?,Array.getElem?_setIfInBounds];by_cases e:i=j
      ·subst e;have:i < L.size:=by omega
       simp [this]
      ·have:¬j=i:=fun h=>e h.symm
       simp [e,this]
     have hset:jc (bN ops s.R R' L) o.dst v=bN ops s.R R' (L.setIfInBounds j true):=by
      funext d;cases hd:o.dst with
      | none=>
        simp only [jc];unfold bN;congr 1;apply propext;constructor
        ·rintro ⟨i,p,h1,h2,h3⟩
         exact ⟨i,p,h1,h2,by rw [hget];split;rfl;exact h3⟩
        ·rintro ⟨i,p,h1,h2,h3⟩
         rw [hget] at h3;by_cases e:i=j
         ·subst e;rw [ho] at h1;injection h1 with h1;subst h1;rw [hd] at h2;cases h2
         ·rw [if_neg e] at h3;exact ⟨i,p,h1,h2,h3⟩
      | some d0=>
        simp only [jc,jl];by_cases e0:d=d0
        ·subst e0;rw [if_pos rfl];unfold bN;rw [if_pos ⟨j,o,ho,hd,by rw [hget];simp⟩,k5 d hd]
        ·rw [if_neg e0];unfold bN;congr 1;apply propext;constructor
         ·rintro ⟨i,p,h1,h2,h3⟩
          exact ⟨i,p,h1,h2,by rw [hget];split;rfl;exact h3⟩
         ·rintro ⟨i,p,h1,h2,h3⟩
          rw [hget] at h3;by_cases e:i=j
          ·subst e;rw [ho] at h1;injection h1 with h1;subst h1;rw [hd] at h2;injection h2 with h2;exact absurd h2.symm e0
          ·rw [if_neg e] at h3;exact ⟨i,p,h1,h2,h3⟩
     have fI:iB (fun i=>(L.setIfInBounds j true).getD i false) 0 us s.O=aV (iB (fun i=>L.getD i false) 0 us s.O) u:=by
      refine pF us 0 j u s.O k2 (by rw [Nat.zero_add];exact pq) (by rw [Nat.zero_add,hget];simp) (fun x hx=>by rw [hget,if_neg (by omega)]) (fun x u' hx hu' hl i hi hi'=>?_);rw [Nat.zero_add] at hl;rw [after x u' i hx hu' hi' (by simp [hi])] at hl;cases hl
     have hc2:=count_set (L:=L) (i:=j) (by omega) hlj;refine ih (L.setIfInBounds j true) κ' φ' w' a' (by simpa using hL) (by omega) (fun i o' ho' hi e' he' hb'=>?_) ?_ (hR.trans g2) ?_
     ·rw [hget] at hi ⊢;by_cases ej:e'.on=j
      ·rw [if_pos ej]
      ·rw [if_neg ej];by_cases ei:i=j
       ·subst ei;rw [ho] at ho';injection ho' with ho';subst ho';exact iJ e' he' hb'
       ·rw [if_neg ei] at hi;exact hcl i o' ho' hi e' he' hb'
     ·rw [←hset,fI];exact g1
     ·rw [fI];exact hK.trans (g3.m m)
 have e0:∀i,(Array.replicate ops.size false).getD i false=false:=fun i=>by
  by_cases hi:i < ops.size<;>simp [Array.getD,hi]
 have m0:iB (fun i=>(Array.replicate ops.size false).getD i false) 0 us s.O=s.O:=qz us 0 s.O (fun j _=>e0 _)
 have r0:bN ops s.R R' (Array.replicate ops.size false)=s.R:=by
  funext d;unfold bN;rw [if_neg]
  rintro ⟨i,o,_,_,h3⟩
  rw [e0] at h3;cases h3
 refine main ops.size (Array.replicate ops.size false) κ φ w a (by simp) (by simp [List.countP_replicate]) (fun j o _ hj=>by rw [e0] at hj;cases hj) ?_ (Fr.refl _ _) ?_
 ·rw [m0,r0];exact F0
 ·rw [m0];exact nS.refl _ _ _
def GC (P:Program) (f:FuncId) (args:List RV) (O:Tab) (r:RV) (O' : Tab):Prop:=
 ∀(κ:bB) (φ:bJ) (w:World) (vs:Array Value),(∀i,OR κ φ O w.heap i (O i))→BJ κ w→vs.size=args.length→
  (∀(i:Nat) (x:RV) (v:Value),args[i]? = some x→vs[i]? = some v→bE κ φ O w.heap x v)→
  Calls P f vs w fun e w'=>∃v κ' φ',e = .returned v∧bE κ' φ' O' w'.heap r v∧(∀i,OR κ' φ' O' w'.heap i (O' i))∧BJ κ' w'∧Fr κ w κ' w'∧Kp φ O φ' O'
def mX (P:Program) (call:mG):Prop:=∀g args O nx r O' nx',call g args O nx=some (r,O',nx')→GC P g args O.fn r O'.fn
theorem dW.Xk {κ κ' : bB} {φ φ' : bJ} {O O' : Tab} {w w' : World} (R:Fr κ w κ' w') (K:Kp φ O φ' O'):dW κ φ O w.heap κ' φ' O' w'.heap:=⟨R.dS,R.w9,K.phi,K.len⟩
theorem sJ:∀(u:List (Nat×ay)) (O:OT),oq u=true→(qE O u).fn=aV O.fn u
 | [],_,_=>rfl
 | (i,p)::r,O,h=>by
   simp only [oq] at h;cases hb:Nat.ble i 1048575 with
   | false=>rw [hb] at h;simp at h
   | true=>
     rw [hb] at h;simp only [cond_true] at h;have hi:=Nat.le_of_ble_eq_true hb;simp only [qE];rw [sJ r _ h,OT.sG (by omega)];rfl
noncomputable def mY (n:Nat) (R:RT) (O:OT):bQ:={ n:=n,R:=R.fn,O:=O.fn,df:=Df.df }
theorem aC.jO {κ:bB} {φ:bJ} {w:World} {n:Nat} {R:RT} {O:Tab} {a:Act} (F:aC κ φ w { n:=n,R:=R.fn,O:=O,df:=Df.df } a) {dst:Option Nat} {rv:RV} {v:Value}
 (hd:∀d,dst=some d→d < n∧d < 512) (hr:bE κ φ O w.heap rv v):aC κ φ w { n:=n,R:=(Am.jO R dst rv).fn,O:=O,df:=Df.df } (a.put dst v):=by
 cases dst with
 | none=>exact F.xu v
 | some d=>
   obtain ⟨h1,h2⟩:=hd d rfl
   have:=F.put (d:=d) h1 hr
   simp only [Am.jO,RT.sG h2];exact this
theorem uj {R:RT} {dst:Option Nat} {v:RV} (hd:∀d,dst=some d→d < 512):(jO R dst v).fn=jc R.fn dst v:=by
 cases dst with
 | none=>rfl
 | some d=>simp only [jO,RT.sG (hd d rfl)];rfl
theorem AO {R R' : RT} {O O' : OT} {nx nx' : Nat} {dst:Option Nat} {r:Option (cB×Bool)} (h:yN R O nx dst r=some (R',O',nx')) :
 ∃res un,r=some (res,un)∧(∀c∈res.conds,c=true)∧R'=jO R dst res.val∧O'.fn=aV O.fn res.upd:=by
 unfold yN at h;cases r with
 | none=>simp at h
 | some p=>
   obtain ⟨res,un⟩:=p;obtain ⟨v,u,c⟩:=res;simp only at h;cases hc:allT c with
   | false=>rw [hc] at h;simp at h
   | true=>
     rw [hc] at h;simp only [cond_true] at h;cases u with
     | nil=>
       simp only [Option.some.injEq,Prod.mk.injEq] at h;obtain ⟨rfl,rfl,rfl⟩:=h;exact ⟨_,_,rfl,lC hc,rfl,rfl⟩
     | cons p u=>
       simp only at h;cases hs:oq (p::u) with
       | false=>rw [hs] at h;simp at h
       | true=>
         rw [hs] at h;simp only [cond_true,Option.some.injEq,Prod.mk.injEq] at h;obtain ⟨rfl,rfl,rfl⟩:=h;exact ⟨_,_,rfl,lC hc,rfl,sJ _ _ hs⟩
theorem CV {κ:bB} {φ:bJ} {w:World} {a:Act} {cf:eu} (hcf:jI P cf) {has:Nat→Bool} {call:mG} (hcall:mX P call) {ops:Array Oper} {n nx nx' : Nat} {R R' : RT} {O O' : OT} {o:Oper} (F:aC κ φ w (mY n R O) a)
 (h:IK cf has call ops R O nx o=some (R',O',nx')) {i:Nat} (hi:ops[i]? = some o)
 (hn:∀(j:Nat) (gg:Oper) (t:Nat),ops[j]? = some gg→gg.dst=some t→t < n) (hn2:n≤512) {Q:Exit→Act→World→Prop} {K:Act→World→Prop}
 (hk:∀a' w' κ' φ',aC κ' φ' w' (mY n R' O') a'→Fr κ w κ' w'→Kp φ O.fn φ' O'.fn→K a' w'):wpOp P ops Q i K a w:=by
 have hdst:∀d,o.dst=some d→d < n∧d < 512:=fun d hd=>⟨hn i o d hi hd,Nat.lt_of_lt_of_le (hn i o d hi hd) hn2⟩;unfold IK at h;unfold wpOp;rw [hi];simp only
 have gen:∀(r:Option (cB×Bool)),yN R O nx o.dst r=some (R',O',nx')→
  (∀res un,r=some (res,un)→(∀c∈res.conds,c=true)→∀(next:Act→World→Prop),
    (∀v w' κ' φ',aC κ' φ' w' { mY n R O with O:=aV O.fn res.upd } a→bE κ' φ' (aV O.fn res.upd) w'.heap res.val v→Fr κ w κ' w'→Kp φ O.fn φ' (aV O.fn res.upd)→next (a.put o.dst v) w')→o.wp P a w next Q)→o.wp P a w K Q:=by
  intro r hr hw;obtain ⟨res,un,e1,e2,e3,e4⟩:=AO hr;refine hw res un e1 e2 K (fun v w' κ' φ' g1 g2 g3 g4=>?_);refine hk _ w' κ' φ' ?_ g3 (by rw [e4];exact g4);subst e3;unfold mY;rw [e4];exact aC.jO g1 hdst g2
 split at h
 ·simp at h
 ·rename_i hg;rw [fZ (s:=mY n R O) F hg (fun j want gg t _ hj ht=>hn j gg t hj ht)];simp only [Bool.false_eq_true,if_false];simp only [Option.some.injEq,Prod.mk.injEq] at h;obtain ⟨rfl,rfl,rfl⟩:=h;exact hk _ _ κ φ (aC.jO F hdst .und) (Fr.refl _ _) (Kp.refl _ _)
 ·rename_i hg;rw [fZ (s:=mY n R O) F hg (fun j want gg t _ hj ht=>hn j gg t hj ht)];simp only [if_true];left;split at h
  ·rename_i x hop;simp only [Option.some.injEq,Prod.mk.injEq] at h;obtain ⟨rfl,rfl,rfl⟩:=h;exact fB (v:=a.eval x) (by simp [execOp,hop]) (hk _ w κ φ (aC.jO F hdst (bg F x)) (Fr.refl _ _) (Kp.refl _ _))
  ·rename_i x hop;simp only [Option.some.injEq,Prod.mk.injEq] at h;obtain ⟨rfl,rfl,rfl⟩:=h;exact fB (v:=a.eval x) (by simp [execOp,hop]) (hk _ w κ φ (aC.jO F hdst (bg F x)) (Fr.refl _ _) (Kp.refl _ _))
  ·rename_i c hop;split at h
   ·rename_i f zL;split at h
    ·rename_i g first caps hrf;cases hok:cf.eY g with
     | false=>rw [hok] at h;simp at h
     | true=>
       rw [hok] at h;simp only [cond_true] at h;have rf:=bg F f;have ZO : aL (mY n R O).R f = .gG (.func g) first caps:=hrf;rw [ZO] at rf;generalize hev:a.eval f=fv at rf;cases rf with
       | gG h1 h2 h3 h4=>
         rename_i fa ca;have hargs:=mq F c.args
         have wH:(execOp a.eval o).run P w = .ok (.enter g (fa++c.args.map a.eval++ca)) w:=by
          simp only [execOp,hop,resolve,zL,hev,Deferred.ofValue,Sem.run_bind,Sem.run_pure,Result.andThen_ok,invoke];exact tH (hcf.call g hok) _ w
         have hsz:(fa++c.args.map a.eval++ca).size=(first++c.args.toList.map (aL R.fn)++caps).length:=by simp;omega
         have hrel:∀(i:Nat) (x:RV) (v:Value),(first++c.args.toList.map (aL R.fn)++caps)[i]? = some x→(fa++c.args.map a.eval++ca)[i]? = some v→bE κ φ O.fn w.heap x v:=by
          intro i x v hx hv;by_cases k1:i < first.length
          ·rw [List.append_assoc,List.getElem?_append_left k1] at hx;rw [Array.append_assoc,Array.getElem?_append_left (by omega)] at hv;exact h3 i x v hx hv
          ·rw [List.append_assoc,List.getElem?_append_right (by omega)] at hx;rw [Array.append_assoc,Array.getElem?_append_right (by omega)] at hv;by_cases k2:i-first.length < c.args.size
           ·rw [List.getElem?_append_left (by simpa using k2)] at hx;rw [Array.getElem?_append_left (by simp;omega)] at hv;exact hargs _ x v hx (by rw [←h1];exact hv)
           ·rw [List.getElem?_append_right (by simp;omega)] at hx;rw [Array.getElem?_append_right (by simp;omega)] at hv;refine h4 _ x v hx ?_;rw [←hv];congr 1;simp;omega
         split at h
         ·rename_i res hres;refine gen _ h (fun res' un e1 e2 next hnext=>?_);injection e1 with e1;injection e1 with e1 _;subst e1
          have hres' : iy cf.K (cf.dw g) O.fn nx g (first++c.args.toList.map (aL R.fn)++caps)=some res:=by
           cases hh:has g with
           | true=>rw [hh] at hres;exact hres
           | false=>rw [hh] at hres;cases hres
          have Gg:=yC (s:=mY n R O) F hcf.K hres' e2 hsz hrel;unfold Oper.wp;rw [wH];refine Gg.mono ?_
          rintro e w' ⟨v,κ',φ',rfl,g1,g2,g3,g4⟩
          exact hnext v w' κ' φ' g1 g2 g3 g4
         ·split at h
          ·rename_i v O1 zU hcl;simp only [Option.some.injEq,Prod.mk.injEq] at h;obtain ⟨rfl,rfl,rfl⟩:=h;have hG:=hcall _ _ _ _ _ _ _ hcl κ φ w _ F.objs F.bnd hsz hrel;unfold Oper.wp;rw [wH];refine hG.mono ?_
           rintro e w' ⟨v',κ',φ',rfl,g1,g2,g3,g4,g5⟩
           have M:=dW.Xk g4 g5;have F' : aC κ' φ' w' { n:=n,R:=R.fn,O:=O1.fn,df:=Df.df } a:=⟨fun t=>(F.regs t).mono M,g2,g3,F.n,F.df.mono M⟩;exact hk _ w' κ' φ' (aC.jO F' hdst g1) g4 g5
          ·simp at h
    ·simp at h
   ·exact gen _ h (fun res un e1 e2 next hnext=>Et hcf F e1 e2 hnext)
  ·exact gen _ h (fun res un e1 e2 next hnext=>Et hcf F e1 e2 hnext)
theorem IL {cf:eu} (hcf:jI P cf) {has:Nat→Bool} {call:mG} (hcall:mX P call) {ops:Array Oper} {n:Nat} (hn2:n≤512) {Q:Exit→Act→World→Prop}:∀(l:List Oper) (k:Nat) {κ:bB} {φ:bJ} {w:World} {a:Act} {R R' : RT} {O O' : OT} {nx nx' : Nat},
 aC κ φ w (mY n R O) a→Gs cf has call ops l R O nx=some (R',O',nx')→dx n ops=true→(∀i o,l[i]? = some o→ops[k+i]? = some o)→
 (∀a' w' κ' φ',aC κ' φ' w' (mY n R' O') a'→Fr κ w κ' w'→Kp φ O.fn φ' O'.fn→Q .normal a' w')→wpOps P ops Q (List.range' k l.length) a w
 | [],k,κ,φ,w,a,R,R',O,O',nx,nx',F,h,hg,hl,hk=>by
   simp only [Gs,Option.some.injEq,Prod.mk.injEq] at h;obtain ⟨rfl,rfl,rfl⟩:=h;exact hk a w κ φ F (Fr.refl _ _) (Kp.refl _ _)
 | o::r,k,κ,φ,w,a,R,R',O,O',nx,nx',F,h,hg,hl,hk=>by
   simp only [Gs] at h;split at h
   ·rename_i R1 O1 zU h1;have hk0:ops[k]? = some o:=by simpa using hl 0 o rfl
    simp only [List.length_cons,List.range'_succ];rw [wpOps_cons];refine CV hcf hcall F h1 hk0 (bZ hg) hn2 (fun a' w' κ' φ' g1 g2 g3=>?_);exact IL hcf hcall hn2 r (k+1) g1 h hg (fun i o' hi=>by have:=hl (i+1) o' (by simpa using hi);rw [←this];congr 1;omega) (fun a2 w2 κ2 φ2 k1 k2 k3=>hk a2 w2 κ2 φ2 k1 (g2.trans k2) (g3.trans k3))
   ·simp at h
theorem IQ {cf:eu} {ops:Array Oper} {R:Nat→RV} {O:Tab} {o:Oper} {v:RV} {c:List Bool} {e:List (RV×RV)} (h:kL cf ops [] R O o=some (v,c,e)):e=[]:=by
 unfold kL at h;split at h
 ·cases h
 ·injection h with h;injection h with h1 h;injection h with h2 h3;exact h3.symm
 ·split at h
  ·cases h
  ·rename_i res un hex;cases hu:res.upd.isEmpty with
   | false=>rw [hu] at h;simp at h
   | true=>
     rw [hu] at h;simp only [cond_true,vk] at h;split at h<;>(injection h with h;injection h with h1 h;injection h with h2 h3;exact h3.symm)
theorem LX {cf:eu} {ops:Array Oper} {O:Tab}:∀(l:List Oper) (R R' : RT) (cs:List Bool),(∀o∈l,∀d,o.dst=some d→d < 512)→vQ cf ops O l R=some R'→(∀c∈cs,c=true)→
 ∃cs',uh cf ops [] O l R.fn cs []=some (R'.fn,cs',[])∧∀c∈cs',c=true
 | [],R,R',cs,_,h,hc=>by simp only [vQ,Option.some.injEq] at h;subst h;exact ⟨cs,rfl,hc⟩
 | o::r,R,R',cs,hd,h,hc=>by
   simp only [vQ] at h;cases h1:kL cf ops [] R.fn O o with
   | none=>rw [h1] at h;simp at h
   | some p=>
     obtain ⟨v,c,e⟩:=p;rw [h1] at h;simp only at h;have he:=IQ h1;subst he;cases hcc:allT c with
     | false=>rw [hcc] at h;simp at h
     | true=>
       rw [hcc] at h;simp only [cond_true] at h;simp only [uh,h1];rw [←uj (hd o (by simp))]
       exact LX r _ R' (cs++c) (fun o ho=>hd o (by simp [ho])) h (fun x hx=>by
        rcases List.mem_append.1 hx with hx | hx
        ·exact hc x hx
        ·exact lC hcc x hx)
theorem Pt {cf:eu} {ops:Array Oper} {R:Nat→RV} {O:Tab} {sl:Nat} {o:Oper} {v:RV} {u:List (Nat×ay)} {c:List Bool} {e:List (RV×RV)} (h:qR cf ops [] R O sl o=some (v,u,c,e)):e=[]:=by
 unfold qR at h;split at h
 ·cases h
 ·injection h with h;injection h with h1 h;injection h with h2 h;injection h with h3 h4;exact h4.symm
 ·split at h
  ·cases h
  ·simp only [vk] at h;split at h<;>(injection h with h;injection h with h1 h;injection h with h2 h;injection h with h3 h4;exact h4.symm)
theorem LY {cf:eu} {ops:Array Oper} {n z:Nat}:∀(l:List Oper) (R R' : RT) (O O' : OT) (rs rs' : List (List Nat×List Nat)) (cs:List Bool),(∀o∈l,∀d,o.dst=some d→d < 512)→
 vE cf ops n z l R O rs=some (R',O',rs')→(∀c∈cs,c=true)→∃cs',rP cf ops [] n z l R.fn O.fn cs [] rs=some (R'.fn,O'.fn,cs',[],rs')∧∀c∈cs',c=true
 | [],R,R',O,O',rs,rs',cs,_,h,hc=>by
   simp only [vE,Option.some.injEq,Prod.mk.injEq] at h;obtain ⟨rfl,rfl,rfl⟩:=h;exact ⟨cs,rfl,hc⟩
 | o::r,R,R',O,O',rs,rs',cs,hd,h,hc=>by
   simp only [vE] at h;cases h1:qR cf ops [] R.fn (nO (foot R.fn O.fn o) O.fn) (bD n z o) o with
   | none=>rw [h1] at h;simp at h
   | some p=>
     obtain ⟨v,u,c,e⟩:=p;rw [h1] at h;simp only at h;have he:=Pt h1;subst he;cases hcc:(allT c&&oq u&&lN O.fn (foot R.fn O.fn o) (bD n z o::(bD n z o+1)::bG u)) with
     | false=>rw [hcc] at h;simp at h
     | true=>
       rw [hcc] at h;simp only [cond_true] at h;simp only [Bool.and_eq_true] at hcc;obtain ⟨⟨c1,c2⟩,c3⟩:=hcc;simp only [rP,h1,c3,cond_true];rw [←uj (hd o (by simp)),←sJ u O c2]
       exact LY r _ R' _ O' _ rs' (cs++c) (fun o ho=>hd o (by simp [ho])) h (fun x hx=>by
        rcases List.mem_append.1 hx with hx | hx
        ·exact hc x hx
        ·exact lC c1 x hx)
theorem AP:∀(l:List ay) (k:Nat) (O:OT),k+l.length≤1048576→(AJ k l O).fn=fun i=>if i < k then O.fn i else if i < k+l.length then l[i-k]? else O.fn i
 | [],k,O,_=>by funext i;simp only [AJ,List.length_nil,Nat.add_zero];split<;>rfl
 | p::r,k,O,h=>by
   simp only [List.length_cons] at h;simp only [AJ];rw [AP r (k+1) _ (by omega),OT.sG (by omega)];funext i;simp only [bA,List.length_cons];by_cases h1:i < k
   ·rw [if_pos (by omega),if_pos h1,if_neg (by omega)]
   ·rw [if_neg h1];by_cases h2:i=k
    ·subst h2;rw [if_pos (by omega),if_pos rfl,if_pos (by omega),Nat.sub_self];rfl
    ·rw [if_neg (by omega),if_neg h2];by_cases h3:i < k+(r.length+1)
     ·rw [if_pos (by omega),if_pos h3,show i-k=(i-(k+1))+1 by omega];rfl
     ·rw [if_neg (by omega),if_neg h3]
theorem LZ (l:List ay) (h:l.length≤4000):(AJ 0 l OT.nil).fn=aR l:=by
 rw [AP l 0 _ (by omega),OT.Gr];funext i;simp only [Nat.not_lt_zero,if_false,Nat.zero_add,Nat.sub_zero,aR];split
 ·rfl
 ·rw [List.getElem?_eq_none (by omega)]
end Go.Am
namespace Go.Am
set_option linter.unusedSectionVars false
variable {P:Program} [Gl]
theorem Pv {f:FuncId} {args:List RV} {objs os:List ay} {r r' : RV} {O' : Tab} (hG:GC P f args (aR objs) r O') (vH:collect objs.length r O'=some (r',os)) :
 C P f args objs (fun r2 o2=>r2=r'∧o2=os):=by
 intro κ φ w vs h1 h2 h3 h4;refine (hG κ φ w vs h1 h2 h3 h4).mono ?_
 rintro e w' ⟨v,κ',φ',rfl,hr,El,hbd,hfr,K'⟩
 unfold collect at vH;simp only at vH;generalize hps:List.range objs.length++(reach O' 400 (r.refs 6++(List.range objs.length).flatMap fun i=>tF (O' i)) []).filter (fun i=>Nat.ble objs.length i)=ps at vH;cases hnd:nodupB ps with
 | false=>rw [hnd] at vH;simp at vH
 | true=>
   rw [hnd] at vH;simp only [cond_true] at vH;split at vH
   ·rename_i r2 os2 hr1 ho1
    ·simp only [Option.some.injEq,Prod.mk.injEq] at vH;obtain ⟨rfl,rfl⟩:=vH;obtain ⟨o1,o2⟩:=dZ _ ps os2 ho1
     let κ2:bB:=fun b=>match κ' b with
      | .dS=>.dS
      | .own i=>match idx i ps 0 with | some j=>.own j | none=>.kW
      | .kW=>.kW
     let φ2:bJ:=fun j=>match ps[j]? with | some i=>φ' i | none=>.un
     have oI:∀(i j:Nat),idx i ps 0=some j→ps[j]? = some i:=fun i j h=>by have:=(kJ i ps 0 j h).2;simpa using this
     have oP:∀(i j:Nat),ps[j]? = some i→idx i ps 0=some j:=fun i j h=>by
      obtain ⟨k,hk⟩:=kr i ps 0 (List.mem_iff_getElem?.2 ⟨j,h⟩);rw [hk,jy ps hnd k j i (oI i k hk) h]
     have iY:∀b,κ' b = .dS→κ2 b = .dS:=fun b hb=>by simp only [κ2,hb]
     have hφ2:∀(i j:Nat),idx i ps 0=some j→φ' i≠.un→φ2 j=φ' i:=fun i j h _=>by simp only [φ2,oI i j h]
     have wB:∀(j i:Nat),ps[j]? = some i→∃p q,O' i=some p∧p.ren (fun i=>idx i ps 0)=some q∧os2[j]? = some q:=by
      intro j i h;have hlt:=(List.getElem?_eq_some_iff.1 h).1;have hlt2:j < os2.length:=by omega
      have hq:os2[j]? = some os2[j]:=by simp [hlt2]
      have:=o2 j i _ h hq
      cases e:O' i with
      | none=>simp only [e] at this;cases this
      | some p=>simp only [e] at this;exact ⟨p,_,rfl,this,hq⟩
     have nA:∀(i j n:Nat),idx i ps 0=some j→φ' i≠.un→ay.dn (aR os2 j)=some n→ay.dn (O' i)=some n:=by
      intro i j n h _ hn;obtain ⟨p,q,e1,e2,e3⟩:=wB j i (oI i j h);rw [e1,←CJ e2];simp only [aR,e3] at hn;exact hn
     have first:∀i,i < objs.length→ps[i]? = some i:=fun i hi=>by
      rw [←hps,List.getElem?_append_left (by simpa using hi)];simp [hi]
     have Rc:∀i,φ i≠.un→i < objs.length:=fun i hi=>by
      rcases Nat.lt_or_ge i objs.length with h | h
      ·exact h
      ·exfalso;apply hi
       have:=h1 i
       have e:aR objs i=none:=by simp only [aR];exact List.getElem?_eq_none h
       rw [e] at this;exact this
     refine ⟨v,r2,os2,κ2,φ2,rfl,⟨rfl,rfl⟩,bE.ren (ρ:=fun i=>idx i ps 0) iY hφ2 nA 6 _ _ _ hr1 hr,fun j=>?_,hbd.same (fun b e=>by simp only [κ2,e]) (fun b e=>by simp only [κ2,e]),?_,
      hfr.trans ⟨Nat.le_refl _,fun b hb=>⟨iY b hb,rfl⟩,fun b _ hb=>⟨by simp only [κ2,hb],rfl⟩,fun _ c _ fz hc=>⟨c,fz,hc,rfl⟩,rfl,rfl⟩,⟨fun i hi=>?_,fun i n hi hn=>?_⟩⟩
     ·cases hj:ps[j]? with
      | none=>
        have:os2[j]? = none:=by rw [List.getElem?_eq_none_iff] at hj ⊢;omega
        simp only [aR,this]
        show φ2 j = .un
        simp only [φ2,hj]
      | some i=>
        obtain ⟨p,q,e1,e2,e3⟩:=wB j i hj;simp only [aR,e3];have ho:=El i;rw [e1] at ho;exact OR.ren (ρ:=fun i=>idx i ps 0) iY hφ2 nA (oP i j hj) (fun b hb=>by simp only [κ2,hb,oP i j hj]) e2 ho
     ·rw [o1,←hps];simp
     ·simp only [φ2,first i (Rc i hi)];exact K'.phi i hi
     ·have hlt:=Rc i hi;have h2' : φ' i≠.un:=by rw [K'.phi i hi];exact hi
      exact K'.len i n hi (nA i i n (oP i i (first i hlt)) h2' hn)
   ·simp at vH
theorem IU {call:mG} (h:mX P call):aX P (JQ call):=by
 intro f args objs r bL c hk _;unfold JQ at hk;cases hb:Nat.ble objs.length 4000 with
 | false=>rw [hb] at hk;simp at hk
 | true=>
   rw [hb] at hk;simp only [cond_true] at hk;split at hk
   ·rename_i r1 O1 zU hcl;split at hk
    ·rename_i r' os vH;simp only [Option.some.injEq,Prod.mk.injEq] at hk;obtain ⟨rfl,rfl,rfl⟩:=hk;have hG:=h _ _ _ _ _ _ _ hcl;rw [LZ objs (Nat.le_of_ble_eq_true hb)] at hG;exact Pv hG vH
    ·simp at hk
   ·simp at hk
theorem L6 {n:Nat} {ops:Array Oper} (hg:dx n ops=true) (hn:n≤512):∀o∈ops.toList,∀d,o.dst=some d→d < 512:=fun o ho d hd=>by
 obtain ⟨j,hj⟩:=List.mem_iff_getElem?.1 ho;exact Nat.lt_of_lt_of_le (bZ hg j o d (by simpa using hj) hd) hn
section
variable [Df]
theorem Gu {cf:eu} (hcf:jI P cf) (fI:P.follows .mixedOrders=true) {has:Nat→Bool} {call:mG} (hcall:mX P call) {n:Nat} (hn:n≤512) {ops:Array Oper} {draw:Bool} {R R' : RT} {O O' : OT} {nx nx' : Nat}
 (h:CS cf has call n ops draw R O nx=some (R',O',nx')) {id:Nat} {k:List It} {m:Nat} {Q:bQ→Prop} (hk:WK P m k (mY n R' O') Q):WK P m (.code (.region id ops draw)::k) (mY n R O) Q:=by
 unfold CS at h;cases hg:dx n ops with
 | false=>rw [hg] at h;simp at h
 | true=>
   rw [hg] at h;simp only [cond_true] at h;cases draw with
   | false=>
     simp only at h;refine WK.region (s':=mY n R' O') (fun κ φ w a F=>?_) hk
     have:=IL (Q:=fun e a' w'=>e = .normal∧∃κ' φ',aC κ' φ' w' (mY n R' O') a'∧Fr κ w κ' w'∧nS m φ (mY n R O).O φ' (mY n R' O').O) hcf hcall hn ops.toList 0 F h hg (fun i o hi=>by simpa using hi)
      (fun a' w' κ' φ' g1 g2 g3=>⟨rfl,κ',φ',g1,g2,g3.m m⟩)
     rw [List.range_eq_range'];simpa using this
   | true=>
     simp only at h;cases hq:iQ ops with
     | false=>rw [hq] at h;simp at h
     | true=>
       rw [hq] at h;simp only [cond_true] at h;cases ha:ops.toList.all fQ with
       | true=>
         rw [ha] at h;simp only [cond_true] at h;split at h
         ·rename_i R1 hr;simp only [Option.some.injEq,Prod.mk.injEq] at h;obtain ⟨rfl,rfl,rfl⟩:=h;obtain ⟨cs,hrun,hcs⟩:=LX (cf:=cf) ops.toList R R1 [] (L6 hg hn) hr (by simp);refine WK.tN (s':=mY n R1 O) fI (fun κ φ w a F=>?_) hk;have key:=Gt (κ0:=κ) (w0:=w) (φ0:=φ) (m:=m) hcf (s:=mY n R O) (R0:=R.fn) hq hg rfl hrun hcs (by simp)
          refine key ops.size (Array.replicate ops.size false) κ φ w a (by simp) (by simp [List.countP_replicate]) (fun j o hj hl=>by
           exfalso;by_cases hi:j < ops.size<;>simp [Array.getD,hi] at hl) ?_ (Fr.refl _ _) (nS.refl _ _ _)
          have:bN ops (mY n R O).R R1.fn (Array.replicate ops.size false)=(mY n R O).R:=by
           funext d;unfold bN;rw [if_neg]
           rintro ⟨i,o,_,_,h3⟩
           by_cases hi:i < ops.size<;>simp [Array.getD,hi] at h3
          rw [this];exact F
         ·simp at h
       | false=>
         rw [ha] at h;simp only [cond_false] at h;split at h
         ·rename_i R1 O1 rs hr;cases hw:pG rs (zS ops.toList []) with
          | false=>rw [hw] at h;simp at h
          | true=>
            rw [hw] at h;simp only [cond_true,Option.some.injEq,Prod.mk.injEq] at h;obtain ⟨rfl,rfl,rfl⟩:=h;obtain ⟨cs,hrun,hcs⟩:=LY ops.toList R R1 O O1 [] rs [] (L6 hg hn) hr (by simp);refine WK.tN (s':=mY n R1 O1) fI (fun κ φ w a F=>?_) hk;have ZP : jI P { cf with K:=Xj cf.K (JQ call),dw:=fun _=>true,diff:=true }:=⟨hcf.E,LV hcf.K (IU hcall),hcf.call⟩;exact LW (s:=mY n R O) (R0:=R.fn) (O0:=O.fn) ZP hq hg rfl rfl hrun hw hcs (by simp) F
         ·simp at h
end
theorem EO:∀(l:List RV) (k:Nat) (R:RT),k+l.length≤512→(AL k l R).fn=fun t=>if t < k then R.fn t else if t < k+l.length then (l[t-k]?).getD .bot else R.fn t
 | [],k,R,_=>by funext t;simp only [AL,List.length_nil,Nat.add_zero];split<;>rfl
 | v::r,k,R,h=>by
   simp only [List.length_cons] at h;simp only [AL];rw [EO r (k+1) _ (by omega),RT.sG (by omega)];funext t;simp only [jl,List.length_cons];by_cases h1:t < k
   ·rw [if_pos (by omega),if_pos h1,if_neg (by omega)]
   ·rw [if_neg h1];by_cases h2:t=k
    ·subst h2;rw [if_pos (by omega),if_pos rfl,if_pos (by omega),Nat.sub_self];rfl
    ·rw [if_neg (by omega),if_neg h2];by_cases h3:t < k+(r.length+1)
     ·rw [if_pos (by omega),if_pos h3,show t-k=(t-(k+1))+1 by omega];rfl
     ·rw [if_neg (by omega),if_neg h3]
theorem OT.Si {O:OT} {i:Nat} (h:1048576≤i):O.fn i=none:=by
 unfold OT.fn;rw [Nat.ble_eq_true_of_le h];rfl
end Go.Am
namespace Go.Am
set_option linter.unusedSectionVars false
variable {P:Program} [Gl] [Df]
def L8 (an:List Nat) (n j:Nat):Bool:=(List.range n).all fun i=>bif Nat.ble (i+1) j then LH (an.getD j 0) i else Nat.beq i j||LH (an.getD i 0) j
def CW (ops:Array Oper):Bool:=let an:=zS ops.toList [];ops.toList.zipIdx.all fun (o,j)=>fQ o||L8 an ops.size j
theorem pK {ops:Array Oper} (h:CW ops=true) {j:Nat} {o:Oper} (hj:ops[j]? = some o) (hq:fQ o=false) :
 (∀i,i < j→Before ops i j)∧(∀i,i < ops.size→j < i→Before ops j i):=by
 have hm:(o,j)∈ops.toList.zipIdx:=by
  rw [List.mem_zipIdx_iff_getElem?];simpa using hj
 have h1:=List.all_eq_true.1 h _ hm;simp only [hq,Bool.false_or,L8,List.all_eq_true,List.mem_range] at h1;have hsz:=(Array.getElem?_eq_some_iff.1 hj).1;have an:=qA (ops:=ops) ops.toList [] (fun i o hi=>by simpa using hi) (fun i k h=>by simp at h);constructor
 ·intro i hi
  have:=h1 i (by omega)
  rw [Nat.ble_eq_true_of_le (by omega)] at this;simp only [cond_true,CB] at this;exact an j i this
 ·intro i hi hij
  have:=h1 i hi
  rw [show Nat.ble (i+1) j=false from by cases hb:Nat.ble (i+1) j;rfl;exact absurd (Nat.le_of_ble_eq_true hb) (by omega)] at this
  simp only [cond_false,CB,Bool.or_eq_true] at this;rcases this with h | h
  ·exact absurd (bV h) (by omega)
  ·exact an i j h
structure CX (P:Program) (cf:eu) (has:Nat→Bool) (ops:Array Oper) (l:List Oper) (k:Nat) (Rs:Nat→RT) (Os:Nat→OT) (ns:Nat→Nat):Prop where
 at_:∀j o,l[j]? = some o→
  (fQ o=true∧Os (k+j+1)=Os (k+j)∧∃v c,kL cf ops [] (Rs (k+j)).fn (Os (k+j)).fn o=some (v,c,[])∧(∀x∈c,x=true)∧Rs (k+j+1)=jO (Rs (k+j)) o.dst v)∨
  (fQ o=false∧∃vc,mX P vc∧IK cf has vc ops (Rs (k+j)) (Os (k+j)) (ns (k+j)) o=some (Rs (k+j+1),Os (k+j+1),ns (k+j+1)))
theorem Pw {cf:eu} {has:Nat→Bool} {vc:mG} {ops:Array Oper} {R R' : RT} {O O' : OT} {nx nx' : Nat} {o:Oper} (h:IK cf has vc ops R O nx o=some (R',O',nx')):∃v,R'=jO R o.dst v:=by
 unfold IK at h;split at h
 ·cases h
 ·simp only [Option.some.injEq,Prod.mk.injEq] at h;exact ⟨_,h.1.symm⟩
 ·have gen:∀r,yN R O nx o.dst r=some (R',O',nx')→∃v,R'=jO R o.dst v:=fun r hr=>by
   obtain ⟨res,un,_,_,e3,_⟩:=AO hr;exact ⟨_,e3⟩
  split at h
  ·simp only [Option.some.injEq,Prod.mk.injEq] at h;exact ⟨_,h.1.symm⟩
  ·simp only [Option.some.injEq,Prod.mk.injEq] at h;exact ⟨_,h.1.symm⟩
  ·split at h
   ·split at h
    ·rename_i g _ _ _;cases hk:cf.eY g with
     | false=>rw [hk] at h;cases h
     | true=>
       rw [hk] at h;simp only [cond_true] at h;split at h
       ·exact gen _ h
       ·split at h
        ·simp only [Option.some.injEq,Prod.mk.injEq] at h;exact ⟨_,h.1.symm⟩
        ·cases h
    ·cases h
   ·exact gen _ h
  ·exact gen _ h
theorem Ma {ops:Array Oper} {R0 R' : Nat→RV} {L:Array Bool} {j:Nat} {o:Oper} {v:RV} (ho:ops[j]? = some o) (hL:L.size=ops.size) (hv:∀d,o.dst=some d→R' d=v) :
 jc (bN ops R0 R' L) o.dst v=bN ops R0 R' (L.setIfInBounds j true):=by
 have hjn:=(Array.getElem?_eq_some_iff.1 ho).1;funext d
 have hget:∀i,(L.setIfInBounds j true).getD i false=if i=j then true else L.getD i false:=by
  intro i;simp only [Array.getD_eq_getD_getElem?,Array.getElem?_setIfInBounds];by_cases e:i=j
  ·subst e;have:i < L.size:=by omega
   simp [this]
  ·have:¬j=i:=fun h=>e h.symm
   simp [e,this]
 cases hd:o.dst with
 | none=>
   simp only [jc];unfold bN;congr 1;apply propext;constructor
   ·rintro ⟨i,p,h1,h2,h3⟩
    exact ⟨i,p,h1,h2,by rw [hget];split;rfl;exact h3⟩
   ·rintro ⟨i,p,h1,h2,h3⟩
    rw [hget] at h3;by_cases e:i=j
    ·subst e;rw [ho] at h1;injection h1 with h1;subst h1;rw [hd] at h2;cases h2
    ·rw [if_neg e] at h3;exact ⟨i,p,h1,h2,h3⟩
 | some d0=>
   simp only [jc,jl];by_cases e0:d=d0
   ·subst e0;rw [if_pos rfl];unfold bN;rw [if_pos ⟨j,o,ho,hd,by rw [hget];simp⟩,hv d hd]
   ·rw [if_neg e0];unfold bN;congr 1;apply propext;constructor
    ·rintro ⟨i,p,h1,h2,h3⟩
     exact ⟨i,p,h1,h2,by rw [hget];split;rfl;exact h3⟩
    ·rintro ⟨i,p,h1,h2,h3⟩
     rw [hget] at h3;by_cases e:i=j
     ·subst e;rw [ho] at h1;injection h1 with h1;subst h1;rw [hd] at h2;injection h2 with h2;exact absurd h2.symm e0
     ·rw [if_neg e] at h3;exact ⟨i,p,h1,h2,h3⟩
theorem Mc {cf:eu} (hcf:jI P cf) {has:Nat→Bool} {ops:Array Oper} {n:Nat} (hn:n≤512) (hq:iQ ops=true) (hg:dx n ops=true) (hl:CW ops=true)
 {Rs:Nat→RT} {Os:Nat→OT} {ns:Nat→Nat} (hrun:CX P cf has ops ops.toList 0 Rs Os ns) {m:Nat} {κ0:bB} {w0:World} {φ0:bJ} :
 ∀(fuel:Nat) (L:Array Bool) (c:Nat) (κ:bB) (φ:bJ) (w:World) (a:Act),L.size=ops.size→L.toList.countP (· == false)=fuel→
  (∀(j:Nat) (o:Oper),ops[j]? = some o→L.getD j false=true→∀e∈o.after,Region.binds .any e=true→L.getD e.on false=true)→
  (∀(p:Nat) (o:Oper),ops[p]? = some o→fQ o=false→(L.getD p false=true↔p < c))→c≤ops.size→
  aC κ φ w { n:=n,R:=bN ops (Rs 0).fn (Rs ops.size).fn L,O:=(Os c).fn,df:=Df.df } a→Fr κ0 w0 κ w→nS m φ0 (Os 0).fn φ (Os c).fn→
  wpAny P .any ops (fun e a' w'=>e = .normal∧∃κ' φ',aC κ' φ' w' (mY n (Rs ops.size) (Os ops.size)) a'∧Fr κ0 w0 κ' w'∧nS m φ0 (Os 0).fn φ' (Os ops.size).fn) fuel L a w:=by
 have hdst:∀(j:Nat) (o:Oper) (d:Nat),ops[j]? = some o→o.dst=some d→d < n∧d < 512:=fun j o d hj hd=>⟨bZ hg j o d hj hd,Nat.lt_of_lt_of_le (bZ hg j o d hj hd) hn⟩
 have hnd:∀(i j:Nat) (p q:Oper) (d:Nat),ops[i]? = some p→ops[j]? = some q→p.dst=some d→q.dst=some d→i=j:=by
  intro i j p q d hi hj hp qQ;rcases ((bX hq (j:=j) (o:=q) hj).2 i p d hi hp).1 with h | h
  ·exact h
  ·exact absurd qQ h
 have hstep:∀(j:Nat) (o:Oper),ops[j]? = some o→∃v,(Rs (j+1)).fn=jc (Rs j).fn o.dst v:=by
  intro j o hj;rcases hrun.at_ j o (by simpa using hj) with ⟨_,_,v,c,_,_,h⟩ | ⟨_,vc,_,h⟩
  ·simp only [Nat.zero_add] at h;exact ⟨v,by rw [h,uj (fun d hd=>(hdst j o d hj hd).2)]⟩
  ·simp only [Nat.zero_add] at h;obtain ⟨v,hv⟩:=Pw h;exact ⟨v,by rw [hv,uj (fun d hd=>(hdst j o d hj hd).2)]⟩
 have keep:∀(k i d:Nat),i+k≤ops.size→(∀(j:Nat) (o:Oper),i≤j→j < i+k→ops[j]? = some o→o.dst≠some d)→(Rs (i+k)).fn d=(Rs i).fn d:=by
  intro k;induction k with
  | zero=>intro i d _ _;rfl
  | succ k ih=>
    intro i d hk hh;have hlt:i+k < ops.size:=by omega
    obtain ⟨v,hv⟩:=hstep (i+k) ops[i+k] (by simp [hlt]);rw [show i+(k+1)=i+k+1 by omega,hv,ug (hh (i+k) _ (by omega) (by omega) (by simp [hlt]))];exact ih i d (by omega) (fun j o h1 h2 h3=>hh j o h1 (by omega) h3)
 have after:∀(j i d:Nat) (o:Oper),i < j→j≤ops.size→ops[i]? = some o→o.dst=some d→(Rs j).fn d=(Rs ops.size).fn d:=by
  intro j i d o hij hj ho hd
  have:=keep (ops.size-j) j d (by omega) (fun j' o' h1 _ h3 h4=>by have:=hnd i j' o o' d ho h3 hd h4;omega)
  rw [show j+(ops.size-j)=ops.size by omega] at this;exact this.symm
 have before:∀(j d:Nat),j≤ops.size→(∀(i:Nat) (o:Oper),i < j→ops[i]? = some o→o.dst≠some d)→(Rs j).fn d=(Rs 0).fn d:=by
  intro j d hj hh
  have:=keep j 0 d (by omega) (fun i o _ h2 h3=>hh i o (by omega) h3)
  simpa using this
 have still:∀(k i:Nat),i+k≤ops.size→(∀(j:Nat) (o:Oper),i≤j→j < i+k→ops[j]? = some o→fQ o=true)→Os (i+k)=Os i:=by
  intro k;induction k with
  | zero=>intro i _ _;rfl
  | succ k ih=>
    intro i hk hh;have hlt:i+k < ops.size:=by omega
    have hqk:=hh (i+k) _ (by omega) (by omega) (by simp [hlt]:ops[i+k]? = some ops[i+k]);rcases hrun.at_ (i+k) ops[i+k] (by simp [hlt]) with ⟨_,h,_⟩ | ⟨h,_⟩
    ·simp only [Nat.zero_add] at h;rw [show i+(k+1)=i+k+1 by omega,h];exact ih i (by omega) (fun j o h1 h2 h3=>hh j o h1 (by omega) h3)
    ·rw [hqk] at h;cases h
 have Gv:∀(i j:Nat),i≤ops.size→j≤ops.size→(∀(p:Nat) (o:Oper),ops[p]? = some o→fQ o=false→(p < i↔p < j))→Os i=Os j:=by
  intro i j hi hj hh;rcases Nat.le_total i j with h | h
  ·have:=still (j-i) i (by omega) (fun p o h1 h2 h3=>by
    cases hqo:fQ o with
    | true=>rfl
    | false=>have:=(hh p o h3 hqo).2 (by omega);omega)
   rw [show i+(j-i)=j by omega] at this;exact this.symm
  ·have:=still (i-j) j (by omega) (fun p o h1 h2 h3=>by
    cases hqo:fQ o with
    | true=>rfl
    | false=>have:=(hh p o h3 hqo).1 (by omega);omega)
   rw [show j+(i-j)=i by omega] at this;exact this
 have prefix_:∀(L:Array Bool) (j:Nat),j≤ops.size→(∀i,i < ops.size→(L.getD i false=true↔i < j))→bN ops (Rs 0).fn (Rs ops.size).fn L=(Rs j).fn:=by
  intro L j hj hall;funext d;unfold bN;split
  ·rename_i hex;obtain ⟨i,o,h1,h2,h3⟩:=hex;have hi:=(Array.getElem?_eq_some_iff.1 h1).1;exact (after j i d o ((hall i hi).1 h3) hj h1 h2).symm
  ·rename_i hne;exact (before j d hj (fun i o hi h1 h2=>hne ⟨i,o,h1,h2,(hall i (Array.getElem?_eq_some_iff.1 h1).1).2 hi⟩)).symm
 have fin:∀(L:Array Bool) (c:Nat) (κ:bB) (φ:bJ) (w:World) (a:Act),(∀i,i < ops.size→L.getD i false=true)→
  (∀(p:Nat) (o:Oper),ops[p]? = some o→fQ o=false→(L.getD p false=true↔p < c))→c≤ops.size→
  aC κ φ w { n:=n,R:=bN ops (Rs 0).fn (Rs ops.size).fn L,O:=(Os c).fn,df:=Df.df } a→nS m φ0 (Os 0).fn φ (Os c).fn→
  aC κ φ w (mY n (Rs ops.size) (Os ops.size)) a∧nS m φ0 (Os 0).fn φ (Os ops.size).fn:=by
  intro L c κ φ w a hall hc hcs F hK
  have e:Os c=Os ops.size:=Gv c ops.size hcs (Nat.le_refl _) (fun p o hp hqo=>by
   have hps:=(Array.getElem?_eq_some_iff.1 hp).1;exact ⟨fun _=>hps,fun _=>(hc p o hp hqo).1 (hall p hps)⟩)
  rw [prefix_ L ops.size (Nat.le_refl _) (fun i hi=>⟨fun _=>hi,fun _=>hall i hi⟩),e] at F;rw [e] at hK;exact ⟨F,hK⟩
 have Md:∀(L:Array Bool) (i:Nat),i < L.size→L.getD i true=L.getD i false:=fun L i hi=>by simp [Array.getD,hi]
 intro fuel;induction fuel with
 | zero=>
   intro L c κ φ w a hL hcnt hcl hc hcs F hR hK;have hall:=lK hcnt;obtain ⟨F',hK'⟩:=fin L c κ φ w a (fun i hi=>by rw [←Md L i (by omega)];exact hall i (by omega)) hc hcs F hK;refine ⟨?_,rfl,κ,φ,F',hR,hK'⟩;cases hr:Region.ready .any ops L with
   | nil=>rfl
   | cons i r=>
     obtain ⟨o,_,h1,h2,_⟩:=mem_ready (md:=.any) (ops:=ops) (L:=L) (i:=i) (by rw [hr];simp);rw [hall i (by omega)] at h2;cases h2
 | succ fuel ih=>
   intro L c κ φ w a hL hcnt hcl hc hcs F hR hK;refine ⟨fun hr=>?_,fun j hj=>?_⟩
   ·have hall:=ready_nil hL (fun j o ho=>(bX hq ho).1) hr;obtain ⟨F',hK'⟩:=fin L c κ φ w a (fun i hi=>by rw [←Md L i (by omega)];exact hall i hi) hc hcs F hK;exact ⟨rfl,κ,φ,F',hR,hK'⟩
   ·obtain ⟨o,ho,hjn,hlj,iJ⟩:=mem_ready hj;have pq:L.getD j false=false:=by rw [←Md L j (by omega)];exact hlj
    obtain ⟨s1,s2⟩:=bX hq ho;have anc:∀p,Before ops p j→L.getD p false=true:=fun p hp=>hp.ready (L:=fun i=>L.getD i false) hcl (fun o' ho' e he hb=>by rw [ho] at ho';injection ho' with ho';subst ho';exact iJ e he hb)
    have desc:∀p,Before ops j p→L.getD p false=false:=fun p hp=>by
     cases hx:L.getD p false with
     | false=>rfl
     | true=>have:=hp.done (L:=fun i=>L.getD i false) hcl hx;simp only [pq] at this;cases this
    have hget:∀i,(L.setIfInBounds j true).getD i false=if i=j then true else L.getD i false:=by
     intro i;simp only [Array.getD_eq_getD_getElem?,Array.getElem?_setIfInBounds];by_cases e:i=j
     ·subst e;have:i < L.size:=by omega
      simp [this]
     ·have:¬j=i:=fun h=>e h.symm
      simp [e,this]
    have hcl' : ∀(j' : Nat) (o' : Oper),ops[j']? = some o'→(L.setIfInBounds j true).getD j' false=true→∀e∈o'.after,Region.binds .any e=true→(L.setIfInBounds j true).getD e.on false=true:=by
     intro j' o' ho' hl' e he' hb';rw [hget] at hl' ⊢;split
     ·rfl
     ·by_cases ej:j'=j
      ·subst ej;rw [ho] at ho';injection ho' with ho';subst ho';exact iJ e he' hb'
      ·rw [if_neg ej] at hl';exact hcl j' o' ho' hl' e he' hb'
    have hcount:=count_set (L:=L) (i:=j) (by omega) hlj;cases hqo:fQ o with
    | true=>
      have eO:Os c=Os j:=Gv c j hcs (by omega) (fun p q hp hqq=>by
       have hps:=(Array.getElem?_eq_some_iff.1 hp).1;rcases Nat.lt_trichotomy p j with h | h | h
       ·have:=(hc p q hp hqq).1 (anc p ((pK hl hp hqq).2 j hjn h));omega
       ·subst h;rw [ho] at hp;injection hp with hp;subst hp;rw [hqo] at hqq;cases hqq
       ·have h1:=desc p ((pK hl hp hqq).1 j h);have h2:=hc p q hp hqq;rw [h1] at h2;constructor
        ·intro h3;have:=h2.2 h3;cases this
        ·intro h3;omega)
      rcases hrun.at_ j o (by simpa using ho) with ⟨_,hOO,v,cc,LG,hcc,hRR⟩ | ⟨h,_⟩
      ·simp only [Nat.zero_add] at hOO LG hRR;have hRf:(Rs (j+1)).fn=jc (Rs j).fn o.dst v:=by rw [hRR,uj (fun d hd=>(hdst j o d ho hd).2)]
       have k4:∀d,o.dst=some d→(Rs ops.size).fn d=v:=fun d hd=>by
        rw [←after (j+1) j d o (by omega) (by omega) ho hd,hRf];exact CU hd
       have same:∀d,d∈looks o ops→bN ops (Rs 0).fn (Rs ops.size).fn L d=(Rs j).fn d:=by
        intro d hd;by_cases hw:∃(i:Nat) (p:Oper),ops[i]? = some p∧p.dst=some d
        ·obtain ⟨i,p,hi,hp⟩:=hw;rcases (s2 i p d hi hp).2 hd with ⟨hij,ed,he1,he2,yE⟩ | ⟨hij,ed,he1,he2,yE⟩
         ·have Pm:L.getD i false=true:=by rw [←he2];exact iJ ed he1 yE
          unfold bN;rw [if_pos ⟨i,p,hi,hp,Pm⟩];exact (after j i d p hij (by omega) hi hp).symm
         ·unfold bN
          rw [if_neg (fun ⟨i',p',h1,h2,h3⟩=>by
           have e:=hnd i' i p' p d h1 hi h2 hp;subst e;rw [h1] at hi;injection hi with hi;subst hi
           have:=hcl i' p' h1 h3 ed he1 yE
           rw [he2,pq] at this;cases this)]
          exact (before j d (by omega) (fun i' p' h0 h1 h2=>by have:=hnd i' i p' p d h1 hi h2 hp;omega)).symm
        ·unfold bN;rw [if_neg (fun ⟨i,p,hi,hp,_⟩=>hw ⟨i,p,hi,hp⟩)];exact (before j d (by omega) (fun i p _ hp wU=>hw ⟨i,p,hp,wU⟩)).symm
       have ZQ : kL cf ops [] (bN ops (Rs 0).fn (Rs ops.size).fn L) (Os c).fn o=some (v,cc,[]):=by
        rw [←LG,eO]
        have h1:guardOf (bN ops (Rs 0).fn (Rs ops.size).fn L) ops o=guardOf (Rs j).fn ops o:=by
         unfold guardOf;cases hgu:o.guard with
         | none=>rfl
         | some p=>
           obtain ⟨g,want⟩:=p;simp only;cases hog:ops[g]? with
           | none=>rfl
           | some gg=>
             simp only;cases hgd:gg.dst with
             | none=>rfl
             | some d=>
               simp only;rw [same d (by simp only [looks,List.mem_append];right;rw [hgu];simp only [hog,hgd];simp)]
        have h2:mR cf (bN ops (Rs 0).fn (Rs ops.size).fn L) (Os j).fn 0 o=mR cf (Rs j).fn (Os j).fn 0 o:=og fun x hx=>lJ fun d hd=>by
         subst hd;refine same d ?_;simp only [looks,List.mem_append,List.mem_filterMap];left;exact ⟨.tmp d,by simpa using hx,rfl⟩
        unfold kL;rw [h1,h2]
       refine Cn hcf F ZQ hcc (by simp) ho (bZ hg) (fun a' w' κ' φ' g1 g2 g3=>?_);have g1' : aC κ' φ' w' { n:=n,R:=bN ops (Rs 0).fn (Rs ops.size).fn (L.setIfInBounds j true),O:=(Os c).fn,df:=Df.df } a':=by rw [←Ma ho hL k4];exact g1
       refine ih (L.setIfInBounds j true) c κ' φ' w' a' (by simpa using hL) (by omega) hcl' (fun p q hp hqq=>?_) hcs g1' (hR.trans g2) (hK.trans (g3.m m));rw [hget];by_cases e:p=j
       ·subst e;rw [ho] at hp;injection hp with hp;subst hp;rw [hqo] at hqq;cases hqq
       ·rw [if_neg e];exact hc p q hp hqq
      ·rw [hqo] at h;cases h
    | false=>
      obtain ⟨l1,l2⟩:=pK hl ho hqo
      have hall:∀i,i < ops.size→(L.getD i false=true↔i < j):=by
       intro i hi;rcases Nat.lt_trichotomy i j with h | h | h
       ·exact ⟨fun _=>h,fun _=>anc i (l1 i h)⟩
       ·subst h;rw [pq];exact ⟨fun h=>(by cases h),fun h=>absurd h (Nat.lt_irrefl _)⟩
       ·have:=desc i (l2 i hi h);rw [this];exact ⟨fun h=>(by cases h),fun h2=>by omega⟩
      have eO:Os c=Os j:=Gv c j hcs (by omega) (fun p q hp hqq=>by
       have hps:=(Array.getElem?_eq_some_iff.1 hp).1;rw [←hc p q hp hqq,hall p hps])
      rw [prefix_ L j (by omega) hall,eO] at F;rw [eO] at hK;rcases hrun.at_ j o (by simpa using ho) with ⟨h,_⟩ | ⟨_,vc,hvc,hv⟩
      ·rw [hqo] at h;cases h
      ·simp only [Nat.zero_add] at hv;refine CV hcf hvc F hv ho (bZ hg) hn (fun a' w' κ' φ' g1 g2 g3=>?_)
       have Rh : ∀i,i < ops.size→((L.setIfInBounds j true).getD i false=true↔i < j+1):=by
        intro i hi;rw [hget];by_cases e:i=j
        ·subst e;simp
        ·rw [if_neg e,hall i hi];omega
       have g1' : aC κ' φ' w' { n:=n,R:=bN ops (Rs 0).fn (Rs ops.size).fn (L.setIfInBounds j true),O:=(Os (j+1)).fn,df:=Df.df } a':=by
        rw [prefix_ _ (j+1) (by omega) Rh];exact g1
       exact ih (L.setIfInBounds j true) (j+1) κ' φ' w' a' (by simpa using hL) (by omega) hcl' (fun p q hp hqq=>Rh p (Array.getElem?_eq_some_iff.1 hp).1) (by omega) g1' (hR.trans g2) (hK.trans (g3.m m))
end Go.Am
namespace Go.Am
set_option linter.unusedSectionVars false
variable {P:Program} [Gl]
abbrev nP:=Option (RV×OT×Nat)
abbrev VK:=RT→OT→Nat→nP
abbrev Ins:=RT→OT→Nat→VK→nP
abbrev RK:=RV→OT→Nat→nP
abbrev fM:=Nat→List RV→OT→Nat→RK→nP
noncomputable def Xl (x:Operand):RT→RV:=
 Operand.rec (motive:=fun _=>RT→RV) (fun t R=>R.fn t) (fun v _=>match DV.qY v with | some x=>.d x | none=>.bot) (fun _ _=>.bot) (fun f _=>.gG (.func f) [] []) x
theorem Gw (x:Operand) (R:RT):Xl x R=aL R.fn x:=by cases x<;>rfl
noncomputable def JR (dst:Option Nat):RV→RT→RT:=
 Option.rec (motive:=fun _=>RV→RT→RT) (fun _ R=>R) (fun d v R=>R.put d v) dst
theorem qF (dst:Option Nat) (v:RV) (R:RT):JR dst v R=jO R dst v:=by cases dst<;>rfl
noncomputable def CY (n:Nat) (k:Nat→nP):nP:=Nat.rec (motive:=fun _=>nP) (k 0) (fun m _=>k (Nat.succ m)) n
theorem AQ (n:Nat) (k:Nat→nP):CY n k=k n:=by cases n<;>rfl
noncomputable def Xm (u:List (Nat×ay)):OT→Nat→(OT→Nat→nP)→nP:=
 List.rec (motive:=fun _=>OT→Nat→(OT→Nat→nP)→nP) (fun O nx k=>k O nx)
  (fun h t _ O nx k=>Bool.rec (motive:=fun _=>nP) none (CY (Rb nx (h::t)) (k (qE O (h::t)))) (oq (h::t))) u
noncomputable def Px (dst:Option Nat) (r:Option (cB×Bool)):Ins:=
 Option.rec (motive:=fun _=>Ins) (fun _ _ _ _=>none)
  (fun p=>Prod.rec (motive:=fun _=>Ins) (fun res _=>cB.rec (motive:=fun _=>Ins)
    (fun v u c R O nx k=>Bool.rec (motive:=fun _=>nP) none (Xm u O nx (k (JR dst v R))) (allT c)) res) p) r
theorem AU {dst:Option Nat} {r:Option (cB×Bool)} {R:RT} {O:OT} {nx:Nat} {k:VK} {a} (h:Px dst r R O nx k=some a) :
 ∃R' O' nx',yN R O nx dst r=some (R',O',nx')∧k R' O' nx'=some a:=by
 cases r with
 | none=>cases h
 | some p=>
   obtain ⟨⟨v,u,c⟩,b⟩:=p;unfold Px at h;simp only at h;unfold yN;cases hc:allT c with
   | false=>rw [hc] at h;cases h
   | true=>
     rw [hc] at h;simp only [hc,cond_true];cases u with
     | nil=>exact ⟨_,_,_,rfl,by rw [←qF];exact h⟩
     | cons x t=>
       unfold Xm at h;simp only at h;cases hs:oq (x::t) with
       | false=>rw [hs] at h;cases h
       | true=>
         rw [hs] at h;simp only [AQ] at h;simp only [cond_true];exact ⟨_,_,_,rfl,by rw [←qF];exact h⟩
noncomputable def IV (x:Operand) (_:eu) (_:Nat→Bool) (_:fM) (o:Oper):Ins:=fun R O nx k=>k (JR o.dst (Xl x R) R) O nx
noncomputable def gD (cf:eu) (_:Nat→Bool) (_:fM) (o:Oper):Ins:=fun R O nx k=>Px o.dst (mR cf R.fn O.fn nx o) R O nx k
noncomputable def Xn (cf:eu) (has:Nat→Bool) (call:fM) (g:Nat) (dst:Option Nat) (args:List RV):Ins:=fun R O nx k=>
 Bool.rec (motive:=fun _=>nP) none
  (Option.rec (motive:=fun _=>nP) (call g args O nx (fun v O' nx'=>k (JR dst v R) O' nx')) (fun res=>Px dst (some (res,false)) R O nx k)
    (bif has g then iy cf.K (cf.dw g) O.fn nx g args else none)) (cf.eY g)
noncomputable def CZ (cf:eu) (has:Nat→Bool) (call:fM) (dst:Option Nat) (args:RT→List RV) (f:RV):Ins:=
 match f with
 | .gG (.func g) first caps=>fun R O nx k=>Xn cf has call g dst (first++args R++caps) R O nx k
 | _=>fun _ _ _ _=>none
noncomputable def AV (l:List Operand):RT→List RV:=
 List.rec (motive:=fun _=>RT→List RV) (fun _=>[]) (fun x _ ih R=>Xl x R::ih R) l
theorem yO (R:RT):∀l:List Operand,AV l R=l.map (aL R.fn)
 | []=>rfl
 | x::r=>by
   have:=yO R r
   unfold AV at this ⊢;simp only [List.map_cons,←this,←Gw]
noncomputable def C8 (c:Call) (cf:eu) (has:Nat→Bool) (call:fM) (o:Oper):Ins:=
 Callee.rec (motive:=fun _=>Ins)
  (fun f=>Operand.rec (motive:=fun _=>Ins) (fun t R O nx k=>CZ cf has call o.dst (AV c.args.toList) (R.fn t) R O nx k) (fun _ _ _ _ _=>none) (fun _ _ _ _ _=>none)
    (fun g R O nx k=>Xn cf has call g o.dst (AV c.args.toList R) R O nx k) f)
  (fun _ _=>gD cf has call o) (fun _=>gD cf has call o) c.callee
noncomputable def fBody (op:Op):eu→(Nat→Bool)→fM→Oper→Ins:=
 Op.rec (motive:=fun _=>eu→(Nat→Bool)→fM→Oper→Ins) IV IV (fun _ _ _=>gD) (fun _=>gD) (fun _ _=>gD) (fun _ _=>gD) (fun _ _ _=>gD) (fun _ _ _ _=>gD) (fun _ _=>gD)
  (fun _ _ _=>gD) (fun _=>gD) (fun _=>gD) (fun _=>gD) (fun _ _ _ _ _=>gD) (fun _ _ _=>gD) (fun _ _ _=>gD) (fun _ _=>gD) (fun _ _=>gD) (fun _ _ _=>gD) (fun _ _=>gD)
  (fun _ _=>gD) (fun _ _ _=>gD) (fun _ _ _ _ _=>gD) (fun _ _ _=>gD) (fun _ _ _=>gD) (fun _ _ _=>gD) (fun _ _ _=>gD) (fun _ _ _ _=>gD) (fun _ _ _ _=>gD) (fun _ _ _=>gD)
  (fun _ _ _ _=>gD) (fun _ _=>gD) (fun _ _=>gD) (fun _=>gD) (fun _ _ _ _=>gD) (fun _ _=>gD) C8 (fun _=>gD) (fun _=>gD) (fun _=>gD) (fun _ _=>gD) (fun _ _ _=>gD) (fun _ _=>gD) op
noncomputable def Sj (cf:eu) (has:Nat→Bool) (call:fM) (ops:Array Oper) (o:Oper):Ins:=
 Option.rec (motive:=fun _=>Ins) (fBody o.op cf has call o)
  (fun _ R O nx k=>Option.rec (motive:=fun _=>nP) none
    (fun b=>Bool.rec (motive:=fun _=>nP) (k (JR o.dst .und R) O nx) (fBody o.op cf has call o R O nx k) b) (guardOf R.fn ops o)) o.guard
noncomputable def Gx (cf:eu) (has:Nat→Bool) (call:fM) (ops:Array Oper) (l:List Oper):Ins:=
 List.rec (motive:=fun _=>Ins) (fun R O nx k=>k R O nx) (fun o _ ih R O nx k=>Sj cf has call ops o R O nx (fun R O nx=>ih R O nx k)) l
def C9 (call:fM):mG:=fun g args O nx=>call g args O nx (fun r O nx=>some (r,O,nx))
noncomputable def stK (r:Option WG) (k:VK):nP:=
 Option.rec (motive:=fun _=>nP) none (fun p=>Prod.rec (motive:=fun _=>nP) (fun R q=>Prod.rec (motive:=fun _=>nP) (fun O nx=>CY nx (k R O)) q) p) r
noncomputable def qK (r:Option (RV×List Bool×List (RV×RV))) (dst:Option Nat):RT→(RT→nP)→nP:=
 Option.rec (motive:=fun _=>RT→(RT→nP)→nP) (fun _ _=>none) (fun p=>Prod.rec (motive:=fun _=>RT→(RT→nP)→nP) (fun v q=>Prod.rec (motive:=fun _=>RT→(RT→nP)→nP)
  (fun c _ R k=>Bool.rec (motive:=fun _=>nP) none (k (JR dst v R)) (allT c)) q) p) r
noncomputable def EP (cf:eu) (has:Nat→Bool) (call:fM) (ops:Array Oper) (l:List Oper):Ins:=
 List.rec (motive:=fun _=>Ins) (fun R O nx k=>k R O nx) (fun o _ ih R O nx k=>Bool.rec (motive:=fun _=>nP) (Sj cf has call ops o R O nx (fun R O nx=>ih R O nx k)) (qK (kL cf ops [] R.fn O.fn o) o.dst R (fun R=>ih R O nx k)) (fQ o)) l
noncomputable def Db (cf:eu) (has:Nat→Bool) (call:fM) (n:Nat) (ops:Array Oper) (draw:Bool):Ins:=
 Bool.rec (motive:=fun _=>Ins)
  (fun R O nx k=>Bool.rec (motive:=fun _=>nP) none (Gx cf has call ops ops.toList R O nx k) (dx n ops))
  (Bool.rec (motive:=fun _=>Ins) (fun R O nx k=>stK (CS cf has (C9 call) n ops true R O nx) k) (fun R O nx k=>EP cf has call ops ops.toList R O nx k) (dx n ops&&iQ ops&&CW ops)) draw
noncomputable def Me (id:Nat) (l:List (Nat×VK)):VK:=
 List.rec (motive:=fun _=>VK) (fun _ _ _=>none) (fun h _ ih=>Prod.rec (motive:=fun _=>VK) (fun j k=>Bool.rec (motive:=fun _=>VK) ih k (Nat.beq j id)) h) l
noncomputable def Ri (b:VK→VK) (fuel:Nat):VK:=
 Nat.rec (motive:=fun _=>VK) (fun _ _ _=>none) (fun _ ih=>b ih) fuel
noncomputable def Mf (v:RV) (x y:nP):nP:=
 match v with
 | .d (.bool t)=>Bool.rec (motive:=fun _=>nP) y x t
 | _=>none
noncomputable def JU (cf:eu) (res:List ResultVar) (wW:RK):VK:=fun R O nx=>
 Option.rec (motive:=fun _=>nP) none (fun vs=>wW (one vs) O nx) (eX (mV cf.E R.fn O.fn) res)
end Go.Am
