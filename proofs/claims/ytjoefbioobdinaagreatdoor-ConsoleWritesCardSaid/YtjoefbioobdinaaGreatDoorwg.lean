/-
  Texts that the claim leans on: AmBridge, AmKon, AmVt, AmVm, AmVe, AmVs, AmVc, AmVl, AmVf.
-/
import Derived.Test.YtjoefbioobdinaaGreatDoorwf
import Derived.Below
import Derived.Laws.AppendOwn
namespace Go.Am
set_option linter.unusedSectionVars false
open Go.RowKit
variable {P:Program} [Gl]
def DV.one:DV→Option Value
 | .bool b=>some (.bool b)
 | .int k n=>some (.int k n)
 | .str s=>some (.string ⟨s.toArray⟩)
 | .aG=>some (.pointer none)
 | .Ba=>some .nilFunc
 | .xk=>some .nilIface
 | _=>none
def DV.ones:List DV→Option (List Value)
 | []=>some []
 | x::r=>match x.one,DV.ones r with
   | some v,some l=>some (v::l)
   | _,_=>none
def DV.flat:DV→Option Value
 | .agg cs=>match DV.ones cs with
   | some l=>some (.agg l.toArray)
   | none=>none
 | .bn cs=>match DV.ones cs with
   | some l=>some (.tuple l.toArray)
   | none=>none
 | x=>x.one
theorem DR.one {κ:bE} {h:Heap} {x:DV} {v u:Value} (r:DR κ h x v) (e:x.one=some u):v=u:=by
 cases r<;>simp_all [DV.one]
theorem DR.Ci {κ:bE} {h:Heap} {x:DV} {u:Value} (e:x.one=some u):DR κ h x u:=by
 cases x<;>simp [DV.one] at e<;>subst e<;>constructor
theorem DV.KZ {x:DV} {u:Value} (e:x.one=some u):x.iD=true:=by cases x<;>first | rfl | (simp [DV.one] at e)
theorem DV.qA:∀(cs:List DV) (us:List Value),DV.ones cs=some us→us.length=cs.length∧(∀x∈cs,∃u,x.one=some u)∧∀(i:Nat) (x:DV) (u:Value),cs[i]? = some x→us[i]? = some u→x.one=some u
 | [],us,h=>by simp [DV.ones] at h;subst h;simp
 | x::cs,us,h=>by
   simp only [DV.ones] at h;cases h1:x.one with
   | none=>rw [h1] at h;simp at h
   | some v=>
     cases h2:DV.ones cs with
     | none=>rw [h1,h2] at h;simp at h
     | some l=>
       rw [h1,h2] at h;simp at h;subst h;obtain ⟨g1,g2,g3⟩:=DV.qA cs l h2;refine ⟨by simp [g1],fun y hy=>?_,fun i y u hy hu=>?_⟩
       ·rcases List.mem_cons.1 hy with rfl | hy
        ·exact ⟨v,h1⟩
        ·exact g2 y hy
       ·cases i with
        | zero=>simp at hy hu;subst hy;subst hu;exact h1
        | succ i=>exact g3 i y u (by simpa using hy) (by simpa using hu)
theorem DR.flat {κ:bE} {h:Heap} {x:DV} {v u:Value} (r:DR κ h x v) (e:x.flat=some u):v=u:=by
 have key:∀{cs:List DV} {vs:Array Value} {l:List Value},DV.ones cs=some l→vs.size=cs.length→(∀(i:Nat) (x:DV) (v:Value),cs[i]? = some x→vs[i]? = some v→DR κ h x v)→vs=l.toArray:=by
  intro cs vs l h1 h2 h3;obtain ⟨g1,g2,g3⟩:=DV.qA cs l h1;apply Array.ext
  ·simp;omega
  ·intro i hi hi2;simp at hi2;have e1:cs[i]? = some cs[i]:=by simp [show i < cs.length by omega]
   have e2:vs[i]? = some vs[i]:=by simp [hi]
   have e3:l[i]? = some l[i]:=by simp [hi2]
   have:=(h3 i _ _ e1 e2).one (g3 i _ _ e1 e3)
   simpa using this
 cases x with
 | agg cs=>
   simp only [DV.flat] at e;cases h1:DV.ones cs with
   | none=>rw [h1] at e;simp at e
   | some l=>
     rw [h1] at e;simp at e;subst e;cases r with
     | agg hl hs hr=>rw [key h1 hl hr]
 | bn cs=>
   simp only [DV.flat] at e;cases h1:DV.ones cs with
   | none=>rw [h1] at e;simp at e
   | some l=>
     rw [h1] at e;simp at e;subst e;cases r with
     | bn hl hr=>rw [key h1 hl hr]
 | _=>exact r.one e
theorem DR.of_flat {κ:bE} {h:Heap} {x:DV} {u:Value} (e:x.flat=some u):DR κ h x u:=by
 cases x with
 | agg cs=>
   simp only [DV.flat] at e;cases h1:DV.ones cs with
   | none=>rw [h1] at e;simp at e
   | some l=>
     rw [h1] at e;simp at e;subst e;obtain ⟨g1,g2,g3⟩:=DV.qA cs l h1;exact .agg (by simpa using g1) (fun y hy=>by obtain ⟨u,hu⟩:=g2 y hy;exact DV.KZ hu) (fun i x v hx hv=>DR.Ci (g3 i x v hx (by simpa using hv)))
 | bn cs=>
   simp only [DV.flat] at e;cases h1:DV.ones cs with
   | none=>rw [h1] at e;simp at e
   | some l=>
     rw [h1] at e;simp at e;subst e;obtain ⟨g1,g2,g3⟩:=DV.qA cs l h1;exact .bn (by simpa using g1) (fun i x v hx hv=>DR.Ci (g3 i x v hx (by simpa using hv)))
 | _=>exact DR.Ci e
theorem La (i:Nat):aV [] i=none:=by simp [aV]
theorem Eh {f:FuncId} {args:List DV} {d:DV}
 (h:∀(κ:bE) (w:World) (vs:Array Value),Bc κ w→vs.size=args.length→(∀(i:Nat) (x:DV) (v:Value),args[i]? = some x→vs[i]? = some v→DR κ w.heap x v)→
   Calls P f vs w fun e w'=>∃v κ',e = .returned v∧DR κ' w'.heap d v∧(w.heap.size≤w'.heap.size∧w'.os=w.os∧w'.output=w.output)∧(∀b,b < w.heap.size→w'.heap[b]? = w.heap[b]?∧κ' b=κ b)∧(∀b,κ' b≠.kQ→b < w'.heap.size)) :
 C P f (args.map .d) [] (fun r o=>r = .d d∧o=[]):=by
 intro κ φ w vs h1 h2 h3 h4;refine (h κ w vs h2 (by simpa using h3) (fun i x v hx hv=>?_)).mono ?_
 ·have:=h4 i (.d x) v (by simp [hx]) hv
  cases this with
  | d hr=>exact hr
 ·rintro e w' ⟨v,κ',rfl,hd,hs,hb,hn⟩
  have hfr:Fr κ w κ' w':=by
   refine ⟨hs.1,fun b hk=>?_,fun b hl hk=>?_,fun b c ty fz hc=>?_,hs.2.1,hs.2.2⟩
   ·have hl:=h2.lt b (by rw [hk];simp);exact ⟨(hb b hl).2.trans hk,(hb b hl).1⟩
   ·exact ⟨(hb b hl).2.trans hk,(hb b hl).1⟩
   ·have hl:b < w.heap.size:=by
     rcases Nat.lt_or_ge b w.heap.size with h' | h'
     ·exact h'
     ·rw [Array.getElem?_eq_none h'] at hc;simp at hc
    exact ⟨c,fz,(hb b hl).1.trans hc,rfl⟩
  refine ⟨v,.d d,[],κ',φ,rfl,⟨rfl,rfl⟩,.d hd,fun i=>?_,h2.step hfr hn,Nat.le_refl _,hfr,Kp.refl _ _⟩
  have:=h1 i
  rw [La] at this ⊢;exact this
theorem Cj {f:FuncId} {args:List DV} {us:List Value} {d:DV} {v:Value} (ha:eG DV.flat args=some us) (hd:d.flat=some v)
 (h:∀(κ:bE) (w:World),Bc κ w→Calls P f us.toArray w fun e w'=>e = .returned v∧Below w.heap.size w w'):C P f (args.map .d) [] (fun r o=>r = .d d∧o=[]):=by
 obtain ⟨g1,g2⟩:=dW _ args us ha;refine Eh fun κ w vs hk hl hr=>?_
 have:vs=us.toArray:=by
  apply Array.ext
  ·simp;omega
  ·intro i hi hi2;simp at hi2;have e1:args[i]? = some args[i]:=by simp [show i < args.length by omega]
   have e2:vs[i]? = some vs[i]:=by simp [hi]
   have e3:us[i]? = some us[i]:=by simp [hi2]
   simpa using (hr i _ _ e1 e2).flat (g2 i _ _ e1 e3)
 subst this;refine (h κ w hk).mono ?_
 rintro e w' ⟨rfl,hB⟩
 exact ⟨v,κ,rfl,DR.of_flat hd,⟨hB.size,hB.os,hB.output⟩,fun b hb=>⟨hB.block b hb,rfl⟩,fun b hb=>Nat.lt_of_lt_of_le (hk.lt b hb) hB.size⟩
theorem nY {f:FuncId} {args:List DV} {us:List Value} {d:DV} {v:Value} (ha:eG DV.flat args=some us) (hd:d.flat=some v)
 (h:∀w:World,Calls P f us.toArray w fun e w'=>e = .returned v∧Below w.heap.size w w'):C P f (args.map .d) [] (fun r o=>r = .d d∧o=[]):=
 Cj ha hd fun _ w _=>h w
def mP (κ:bE) (v:Value):bE:=fun b=>if v.ownBlock=some b then .dN else κ b
theorem newRow {κ:bE} {w w' : World} {e:TypeId} {sz n:Nat} {v:Value} {xs:List Value} {els:List DV} (ho:w'.ownsRow w.heap.size e sz v n xs) (hn:n=els.length) (hz:xq sz els)
 (hx:∀(i:Nat) (x:DV) (j:Nat) (y:DV) (u:Value),els[i]? = some x→x.cells[j]? = some y→xs[i*sz+j]? = some u→y.one=some u)
 (hk:∀b,κ b≠.kQ→b < w.heap.size) (hs:w.heap.size≤w'.heap.size) :
 DR (mP κ v) w'.heap (.aC sz els false) v∧(∀b,b < w.heap.size→mP κ v b=κ b)∧(∀b,mP κ v b≠.kQ→b < w'.heap.size):=by
 obtain ⟨h1,h2⟩:=ho;rcases h2 with ⟨rfl,h0⟩ | ⟨g,cap,cur,rfl,hg,hc,h3,_,h4,h5⟩
 ·have:els=[]:=List.eq_nil_of_length_eq_zero (by omega)
  subst this;exact ⟨.iU (fun h=>by cases h),fun b _=>by simp [mP,Value.ownBlock],fun b hb=>by simp [mP,Value.ownBlock] at hb;exact Nat.lt_of_lt_of_le (hk b hb) hs⟩
 ·subst hn
  have hlt:g < w'.heap.size:=by
   rcases Nat.lt_or_ge g w'.heap.size with h' | h'
   ·exact h'
   ·rw [Array.getElem?_eq_none h'] at hc;simp at hc
  refine ⟨.aC (by simp [mP,Value.ownBlock]) hc (fun h=>by cases h) h3 (by omega) hz (fun i x j y u hi hj hu=>?_),fun b hb=>?_,fun b hb=>?_⟩
  ·have hil:=(List.getElem?_eq_some_iff.1 hi).1
   have hjl:j < sz:=by
    have:=(hz x (List.mem_of_getElem? hi)).1
    have:=(List.getElem?_eq_some_iff.1 hj).1
    omega
   have hlt:i*sz+j < els.length*sz:=by
    have:(i+1)*sz≤els.length*sz:=Nat.mul_le_mul_right _ hil
    rw [Nat.add_mul,Nat.one_mul] at this;omega
   refine DR.Ci (hx i x j y u hi hj ?_);rw [←h5,List.getElem?_take,if_pos hlt];simpa using hu
  ·simp only [mP,Value.ownBlock,Option.some.injEq];rw [if_neg (by omega)]
  ·simp only [mP,Value.ownBlock,Option.some.injEq] at hb;by_cases e:g=b
   ·subst e;exact hlt
   ·rw [if_neg e] at hb;exact Nat.lt_of_lt_of_le (hk b hb) hs
end Go.Am
namespace Go.Am
set_option linter.unusedSectionVars false
variable {P:Program} [Gl]
abbrev kK:=List RV→List av→Option (RV×List av×List Bool)
def Ag:List (Nat×kK)→Nat→Option kK
 | [],_=>none
 | (i,g)::r,f=>bif Nat.beq i f then some g else Ag r f
def Ei (l:List (Nat×kK)):uD:=fun f a o=>match Ag l f with
 | some g=>g a o
 | none=>none
def cK (P:Program) (f:Nat) (g:kK):Prop:=∀a o r o' c,g a o=some (r,o',c)→(∀b∈c,b=true)→C P f a o (fun r2 o2=>r2=r∧o2=o')
theorem yu:∀(l:List (Nat×kK)) (f:Nat) (g:kK),Ag l f=some g→(f,g)∈l
 | [],f,g,h=>by simp [Ag] at h
 | (i,g')::r,f,g,h=>by
   simp only [Ag] at h;cases hb:Nat.beq i f with
   | true=>rw [hb] at h;simp at h;subst h;have:=cB hb;subst this;simp
   | false=>rw [hb] at h;simp at h;simp [yu r f g h]
inductive eD (P:Program):List (Nat×kK)→Prop
 | nil:eD P []
 | cons {f:Nat} {g:kK} {l:List (Nat×kK)} (h:cK P f g) (t:eD P l):eD P ((f,g)::l)
theorem eD.mem {l:List (Nat×kK)} (h:eD P l):∀f g,(f,g)∈l→cK P f g:=by
 induction h with
 | nil=>intro f g hm;simp at hm
 | cons h _ ih=>
   intro f g hm;rcases List.mem_cons.1 hm with e | hm
   ·injection e with e1 e2;subst e1;subst e2;exact h
   ·exact ih f g hm
theorem yw {l:List (Nat×kK)} (h:eD P l):aZ P (Ei l):=by
 intro f args objs r bS c hk hc;unfold Ei at hk;cases hf:Ag l f with
 | none=>rw [hf] at hk;simp at hk
 | some g=>rw [hf] at hk;exact h.mem f g (yu l f g hf) args objs r bS c hk hc
def e0 (g:Option (DV×List Bool)):kK:=fun a o=>match a,o with
 | [],[]=>match g with
   | some (y,c)=>some (.d y,[],c)
   | none=>none
 | _,_=>none
def e1 (g:DV→Option (DV×List Bool)):kK:=fun a o=>match a,o with
 | [.d x],[]=>match g x with
   | some (y,c)=>some (.d y,[],c)
   | none=>none
 | _,_=>none
def e2 (g:DV→DV→Option (DV×List Bool)):kK:=fun a o=>match a,o with
 | [.d x,.d x2],[]=>match g x x2 with
   | some (y,c)=>some (.d y,[],c)
   | none=>none
 | _,_=>none
theorem QE {f:Nat} {g:Option (DV×List Bool)} (h:∀y c,g=some (y,c)→(∀b∈c,b=true)→C P f [] [] (fun r o=>r = .d y∧o=[])):cK P f (e0 g):=by
 intro a o r o' c hg hc;unfold e0 at hg;split at hg
 ·cases hx:g with
  | none=>rw [hx] at hg;simp at hg
  | some p=>
    obtain ⟨y,c'⟩:=p;rw [hx] at hg;simp at hg;obtain ⟨rfl,rfl,rfl⟩:=hg;exact h y c' hx hc
 ·simp at hg
theorem yx {f:Nat} {g:DV→Option (DV×List Bool)} (h:∀x y c,g x=some (y,c)→(∀b∈c,b=true)→C P f [.d x] [] (fun r o=>r = .d y∧o=[])):cK P f (e1 g):=by
 intro a o r o' c hg hc;unfold e1 at hg;split at hg
 ·rename_i x;cases hx:g x with
  | none=>rw [hx] at hg;simp at hg
  | some p=>
    obtain ⟨y,c'⟩:=p;rw [hx] at hg;simp at hg;obtain ⟨rfl,rfl,rfl⟩:=hg;exact h x y c' hx hc
 ·simp at hg
theorem nK {f:Nat} {g:DV→DV→Option (DV×List Bool)} (h:∀x x2 y c,g x x2=some (y,c)→(∀b∈c,b=true)→C P f [.d x,.d x2] [] (fun r o=>r = .d y∧o=[])):cK P f (e2 g):=by
 intro a o r o' c hg hc;unfold e2 at hg;split at hg
 ·rename_i x x2;cases hx:g x x2 with
  | none=>rw [hx] at hg;simp at hg
  | some p=>
    obtain ⟨y,c'⟩:=p;rw [hx] at hg;simp at hg;obtain ⟨rfl,rfl,rfl⟩:=hg;exact h x x2 y c' hx hc
 ·simp at hg
def runK (P:Program) (cf:dX) (n l:Nat):uD:=fun f args objs=>
 match P.funcs[f]? with
 | some fn=>match fn.body with
   | some body=>bif Nat.ble args.length fn.ntmps&&Nat.ble args.length 60000&&Nat.ble objs.length 60 then
      match au cf (!(cf.dD f)) fn.results.toList n l [] [.code body] (bV fn.ntmps args objs) with
      | some (r,o,c,es)=>match es with
        | []=>some (r,o,c)
        | _::_=>none
      | none=>none
     else none
   | none=>none
 | none=>none
def Wx (a b:uD):uD:=fun f args objs=>match a f args objs with
 | some x=>some x
 | none=>b f args objs
theorem Lb {a b:uD} (ha:aZ P a) (hb:aZ P b):aZ P (Wx a b):=by
 intro f args objs r bS c hk hc;unfold Wx at hk;cases h:a f args objs with
 | some x=>rw [h] at hk;simp only [Option.some.injEq] at hk;subst hk;exact ha _ _ _ _ _ _ h hc
 | none=>rw [h] at hk;exact hb _ _ _ _ _ _ hk hc
theorem OJ {cf:dX} (hok:Ok P cf) (n l:Nat):aZ P (runK P cf n l):=by
 intro f args objs r bS c hk hc;unfold runK at hk;cases hf:P.funcs[f]? with
 | none=>rw [hf] at hk;simp at hk
 | some fn=>
   rw [hf] at hk;simp only at hk;cases hb:fn.body with
   | none=>rw [hb] at hk;simp at hk
   | some body=>
     rw [hb] at hk;simp only at hk;cases hg:(Nat.ble args.length fn.ntmps&&Nat.ble args.length 60000&&Nat.ble objs.length 60) with
     | false=>rw [hg] at hk;simp at hk
     | true=>
       rw [hg] at hk;simp only [cond_true] at hk;split at hk
       ·rename_i r1 o1 c1 es1 hr;split at hk
        ·simp only [Option.some.injEq,Prod.mk.injEq] at hk;obtain ⟨rfl,rfl,rfl⟩:=hk;refine aH (!(cf.dD f)) hf hb hg ?_;refine WK.fin hok n l [] c1 [] rfl hr ?_ trivial ⟨rfl,rfl⟩;clear hr;induction c1 with
         | nil=>trivial
         | cons x r ih=>exact ⟨hc x (by simp),ih (fun b hb=>hc b (by simp [hb]))⟩
        ·simp at hk
       ·simp at hk
def layer (P:Program) (base:uD) (dD eH:Nat→Bool) (n l:Nat):Nat→uD
 | 0=>base
 | d+1=>Wx base (runK P { E:=Env.of P,K:=layer P base dD eH n l d,dD:=dD,eH:=eH } n l)
end Go.Am
namespace Go.Am
variable {P:Program} [Gl]
theorem Ej {base:uD} {dD QF:Nat→Bool} {n l:Nat} (hm:P.follows .mixedOrders=true) (hb:aZ P base) (hc:∀f,QF f=true→eH P f=true):∀d,aZ P (layer P base dD QF n l d)
 | 0=>hb
 | d+1=>Lb hb (OJ (cf:={ E:=Env.of P,K:=layer P base dD QF n l d,dD:=dD,eH:=QF }) ⟨⟨rfl,Ej hm hb hc d,hc⟩,hm⟩ n l)
end Go.Am
namespace Go.Am
set_option linter.unusedSectionVars false
variable [Gl]
inductive Ry where
 | d0 | d1 | d2 | d3 | d4 | d5 | d6 | d7 | d8 | d9 | d10 | d11 | d12 | d13 | d14 | d15
 deriving DecidableEq
inductive dQ (α:Type) where
 | mk (a0 a1 a2 a3 a4 a5 a6 a7 a8 a9 rA rC a12 rD rE rF:α)
def iY (n:Nat):Ry:=bif Nat.beq n 0 then .d0 else bif Nat.beq n 1 then .d1 else bif Nat.beq n 2 then .d2 else bif Nat.beq n 3 then .d3 else bif Nat.beq n 4 then .d4 else bif Nat.beq n 5 then .d5 else bif Nat.beq n 6 then .d6 else bif Nat.beq n 7 then .d7 else bif Nat.beq n 8 then .d8 else bif Nat.beq n 9 then .d9 else bif Nat.beq n 10 then .d10 else bif Nat.beq n 11 then .d11 else bif Nat.beq n 12 then .d12 else bif Nat.beq n 13 then .d13 else bif Nat.beq n 14 then .d14 else .d15
noncomputable def dQ.get {α:Type} (d:Ry) (t:dQ α):α:=
 Ry.rec (motive:=fun _=>dQ α→α) (fun t=>dQ.rec (motive:=fun _=>α) (fun a0 _ _ _ _ _ _ _ _ _ _ _ _ _ _ _=>a0) t) (fun t=>dQ.rec (motive:=fun _=>α) (fun _ a1 _ _ _ _ _ _ _ _ _ _ _ _ _ _=>a1) t) (fun t=>dQ.rec (motive:=fun _=>α) (fun _ _ a2 _ _ _ _ _ _ _ _ _ _ _ _ _=>a2) t) (fun t=>dQ.rec (motive:=fun _=>α) (fun _ _ _ a3 _ _ _ _ _ _ _ _ _ _ _ _=>a3) t) (fun t=>dQ.rec (motive:=fun _=>α) (fun _ _ _ _ a4 _ _ _ _ _ _ _ _ _ _ _=>a4) t) (fun t=>dQ.rec (motive:=fun _=>α) (fun _ _ _ _ _ a5 _ _ _ _ _ _ _ _ _ _=>a5) t) (fun t=>dQ.rec (motive:=fun _=>α) (fun _ _ _ _ _ _ a6 _ _ _ _ _ _ _ _ _=>a6) t) (fun t=>dQ.rec (motive:=fun _=>α) (fun _ _ _ _ _ _ _ a7 _ _ _ _ _ _ _ _=>a7) t) (fun t=>dQ.rec (motive:=fun _=>α) (fun _ _ _ _ _ _ _ _ a8 _ _ _ _ _ _ _=>a8) t) (fun t=>dQ.rec (motive:=fun _=>α) (fun _ _ _ _ _ _ _ _ _ a9 _ _ _ _ _ _=>a9) t) (fun t=>dQ.rec (motive:=fun _=>α) (fun _ _ _ _ _ _ _ _ _ _ rA _ _ _ _ _=>rA) t) (fun t=>dQ.rec (motive:=fun _=>α) (fun _ _ _ _ _ _ _ _ _ _ _ rC _ _ _ _=>rC) t) (fun t=>dQ.rec (motive:=fun _=>α) (fun _ _ _ _ _ _ _ _ _ _ _ _ a12 _ _ _=>a12) t) (fun t=>dQ.rec (motive:=fun _=>α) (fun _ _ _ _ _ _ _ _ _ _ _ _ _ rD _ _=>rD) t) (fun t=>dQ.rec (motive:=fun _=>α) (fun _ _ _ _ _ _ _ _ _ _ _ _ _ _ rE _=>rE) t) (fun t=>dQ.rec (motive:=fun _=>α) (fun _ _ _ _ _ _ _ _ _ _ _ _ _ _ _ rF=>rF) t) d t
noncomputable def dQ.put {α:Type} (d:Ry) (v:α) (t:dQ α):dQ α:=
 Ry.rec (motive:=fun _=>α→dQ α→dQ α) (fun v t=>dQ.rec (motive:=fun _=>dQ α) (fun _ a1 a2 a3 a4 a5 a6 a7 a8 a9 rA rC a12 rD rE rF=>.mk v a1 a2 a3 a4 a5 a6 a7 a8 a9 rA rC a12 rD rE rF) t) (fun v t=>dQ.rec (motive:=fun _=>dQ α) (fun a0 _ a2 a3 a4 a5 a6 a7 a8 a9 rA rC a12 rD rE rF=>.mk a0 v a2 a3 a4 a5 a6 a7 a8 a9 rA rC a12 rD rE rF) t) (fun v t=>dQ.rec (motive:=fun _=>dQ α) (fun a0 a1 _ a3 a4 a5 a6 a7 a8 a9 rA rC a12 rD rE rF=>.mk a0 a1 v a3 a4 a5 a6 a7 a8 a9 rA rC a12 rD rE rF) t) (fun v t=>dQ.rec (motive:=fun _=>dQ α) (fun a0 a1 a2 _ a4 a5 a6 a7 a8 a9 rA rC a12 rD rE rF=>.mk a0 a1 a2 v a4 a5 a6 a7 a8 a9 rA rC a12 rD rE rF) t) (fun v t=>dQ.rec (motive:=fun _=>dQ α) (fun a0 a1 a2 a3 _ a5 a6 a7 a8 a9 rA rC a12 rD rE rF=>.mk a0 a1 a2 a3 v a5 a6 a7 a8 a9 rA rC a12 rD rE rF) t) (fun v t=>dQ.rec (motive:=fun _=>dQ α) (fun a0 a1 a2 a3 a4 _ a6 a7 a8 a9 rA rC a12 rD rE rF=>.mk a0 a1 a2 a3 a4 v a6 a7 a8 a9 rA rC a12 rD rE rF) t) (fun v t=>dQ.rec (motive:=fun _=>dQ α) (fun a0 a1 a2 a3 a4 a5 _ a7 a8 a9 rA rC a12 rD rE rF=>.mk a0 a1 a2 a3 a4 a5 v a7 a8 a9 rA rC a12 rD rE rF) t) (fun v t=>dQ.rec (motive:=fun _=>dQ α) (fun a0 a1 a2 a3 a4 a5 a6 _ a8 a9 rA rC a12 rD rE rF=>.mk a0 a1 a2 a3 a4 a5 a6 v a8 a9 rA rC a12 rD rE rF) t) (fun v t=>dQ.rec (motive:=fun _=>dQ α) (fun a0 a1 a2 a3 a4 a5 a6 a7 _ a9 rA rC a12 rD rE rF=>.mk a0 a1 a2 a3 a4 a5 a6 a7 v a9 rA rC a12 rD rE rF) t) (fun v t=>dQ.rec (motive:=fun _=>dQ α) (fun a0 a1 a2 a3 a4 a5 a6 a7 a8 _ rA rC a12 rD rE rF=>.mk a0 a1 a2 a3 a4 a5 a6 a7 a8 v rA rC a12 rD rE rF) t) (fun v t=>dQ.rec (motive:=fun _=>dQ α) (fun a0 a1 a2 a3 a4 a5 a6 a7 a8 a9 _ rC a12 rD rE rF=>.mk a0 a1 a2 a3 a4 a5 a6 a7 a8 a9 v rC a12 rD rE rF) t) (fun v t=>dQ.rec (motive:=fun _=>dQ α) (fun a0 a1 a2 a3 a4 a5 a6 a7 a8 a9 rA _ a12 rD rE rF=>.mk a0 a1 a2 a3 a4 a5 a6 a7 a8 a9 rA v a12 rD rE rF) t) (fun v t=>dQ.rec (motive:=fun _=>dQ α) (fun a0 a1 a2 a3 a4 a5 a6 a7 a8 a9 rA rC _ rD rE rF=>.mk a0 a1 a2 a3 a4 a5 a6 a7 a8 a9 rA rC v rD rE rF) t) (fun v t=>dQ.rec (motive:=fun _=>dQ α) (fun a0 a1 a2 a3 a4 a5 a6 a7 a8 a9 rA rC a12 _ rE rF=>.mk a0 a1 a2 a3 a4 a5 a6 a7 a8 a9 rA rC a12 v rE rF) t) (fun v t=>dQ.rec (motive:=fun _=>dQ α) (fun a0 a1 a2 a3 a4 a5 a6 a7 a8 a9 rA rC a12 rD _ rF=>.mk a0 a1 a2 a3 a4 a5 a6 a7 a8 a9 rA rC a12 rD v rF) t) (fun v t=>dQ.rec (motive:=fun _=>dQ α) (fun a0 a1 a2 a3 a4 a5 a6 a7 a8 a9 rA rC a12 rD rE _=>.mk a0 a1 a2 a3 a4 a5 a6 a7 a8 a9 rA rC a12 rD rE v) t) d v t
def dQ.all {α:Type} (v:α):dQ α:=.mk v v v v v v v v v v v v v v v v
theorem dQ.get_put {α:Type} (d e:Ry) (v:α) (t:dQ α):(t.put d v).get e=if d=e then v else t.get e:=by
 cases t;cases d<;>cases e<;>rfl
theorem dQ.HZ {α:Type} (d:Ry) (v:α):(dQ.all v).get d=v:=by cases d<;>rfl
theorem nZ {n m:Nat} (hn:n < 16) (hm:m < 16) (h:iY n=iY m):n=m:=by
 have key:∀n:Fin 16,∀m:Fin 16,iY n.1=iY m.1→n.1=m.1:=by decide
 exact key ⟨n,hn⟩ ⟨m,hm⟩ h
abbrev Ah:=dQ (dQ RV)
noncomputable def Ah.get (t:Nat) (R:Ah):RV:=dQ.get (iY (t % 16)) (dQ.get (iY (t / 16)) R)
noncomputable def Ah.put (t:Nat) (v:RV) (R:Ah):Ah:=dQ.put (iY (t / 16)) (dQ.put (iY (t % 16)) v (dQ.get (iY (t / 16)) R)) R
inductive RT where
 | mk (lo hi:Ah)
noncomputable def RT.get (t:Nat) (R:RT):RV:=RT.rec (motive:=fun _=>RV) (fun lo hi=>Bool.rec (motive:=fun _=>RV) (Ah.get t lo) (Ah.get (t-256) hi) (Nat.ble 256 t)) R
noncomputable def RT.put (t:Nat) (v:RV) (R:RT):RT:=RT.rec (motive:=fun _=>RT) (fun lo hi=>Bool.rec (motive:=fun _=>RT) (.mk (Ah.put t v lo) hi) (.mk lo (Ah.put (t-256) v hi)) (Nat.ble 256 t)) R
noncomputable def RT.fn (R:RT) (t:Nat):RV:=bif Nat.ble 512 t then .bot else R.get t
noncomputable def RT.nil:RT:=.mk (dQ.all (dQ.all .bot)) (dQ.all (dQ.all .bot))
theorem Ah.get_put {t u:Nat} (ht:t < 256) (hu:u < 256) (v:RV) (R:Ah):Ah.get u (Ah.put t v R)=if u=t then v else Ah.get u R:=by
 simp only [Ah.get,Ah.put,dQ.get_put];by_cases e:u=t
 ·subst e;simp [dQ.get_put]
 ·rw [if_neg e];by_cases h1:iY (t / 16)=iY (u / 16)
  ·have:=nZ (by omega) (by omega) h1
   rw [if_pos h1,dQ.get_put,if_neg (fun h2=>by have:=nZ (by omega) (by omega) h2;omega),h1]
  ·rw [if_neg h1]
theorem RT.get_put {t u:Nat} (ht:t < 512) (hu:u < 512) (v:RV) (R:RT):(R.put t v).get u=if u=t then v else R.get u:=by
 cases R with
 | mk lo hi=>
 unfold RT.get RT.put;by_cases h1:256≤t
 ·rw [Nat.ble_eq_true_of_le h1];by_cases h2:256≤u
  ·rw [Nat.ble_eq_true_of_le h2];simp only;rw [Ah.get_put (by omega) (by omega)];by_cases e:u=t
   ·rw [if_pos e,if_pos (by omega)]
   ·rw [if_neg e,if_neg (by omega)]
  ·have hb:Nat.ble 256 u=false:=by cases h:Nat.ble 256 u;rfl;exact absurd (Nat.le_of_ble_eq_true h) h2
   rw [hb];simp only;rw [if_neg (by omega)]
 ·have hb:Nat.ble 256 t=false:=by cases h:Nat.ble 256 t;rfl;exact absurd (Nat.le_of_ble_eq_true h) h1
  rw [hb];by_cases h2:256≤u
  ·rw [Nat.ble_eq_true_of_le h2];simp only;rw [if_neg (by omega)]
  ·have hb:Nat.ble 256 u=false:=by cases h:Nat.ble 256 u;rfl;exact absurd (Nat.le_of_ble_eq_true h) h2
   rw [hb];simp only;rw [Ah.get_put (by omega) (by omega)]
theorem RT.sj {t:Nat} (ht:t < 512) (v:RV) (R:RT):(R.put t v).fn=jh R.fn t v:=by
 funext u;unfold RT.fn jh;by_cases hu:u < 512
 ·have hb:Nat.ble 512 u=false:=by cases h:Nat.ble 512 u;rfl;exact absurd (Nat.le_of_ble_eq_true h) (by omega)
  simp only [hb,cond_false];rw [RT.get_put ht hu]
 ·have hb:Nat.ble 512 u=true:=Nat.ble_eq_true_of_le (by omega);simp only [hb,cond_true];rw [if_neg (by omega)]
theorem RT.get_nil (t:Nat):RT.nil.get t = .bot:=by
 unfold RT.get RT.nil Ah.get;cases Nat.ble 256 t<;>simp only [dQ.HZ]
theorem RT.FV:RT.nil.fn=fun _=>.bot:=by
 funext t;unfold RT.fn;rw [RT.get_nil];cases Nat.ble 512 t<;>rfl
abbrev OT:=dQ (dQ (dQ (dQ (dQ (Option av)))))
noncomputable def OT.get (i:Nat) (O:OT):Option av:=
 dQ.get (iY (i % 16)) (dQ.get (iY (i / 16 % 16)) (dQ.get (iY (i / 256 % 16)) (dQ.get (iY (i / 4096 % 16)) (dQ.get (iY (i / 65536)) O))))
noncomputable def OT.put (i:Nat) (p:Option av) (O:OT):OT:=
 dQ.put (iY (i / 65536)) (dQ.put (iY (i / 4096 % 16)) (dQ.put (iY (i / 256 % 16)) (dQ.put (iY (i / 16 % 16)) (dQ.put (iY (i % 16)) p
  (dQ.get (iY (i / 16 % 16)) (dQ.get (iY (i / 256 % 16)) (dQ.get (iY (i / 4096 % 16)) (dQ.get (iY (i / 65536)) O)))))
  (dQ.get (iY (i / 256 % 16)) (dQ.get (iY (i / 4096 % 16)) (dQ.get (iY (i / 65536)) O))))
  (dQ.get (iY (i / 4096 % 16)) (dQ.get (iY (i / 65536)) O))) (dQ.get (iY (i / 65536)) O)) O
noncomputable def OT.fn (O:OT) (i:Nat):Option av:=bif Nat.ble 1048576 i then none else O.get i
noncomputable def OT.nil:OT:=dQ.all (dQ.all (dQ.all (dQ.all (dQ.all none))))
theorem OT.sj {i:Nat} (hi:i < 1048576) (p:Option av) (O:OT):(O.put i p).fn=bF O.fn i p:=by
 funext u;unfold OT.fn bF;by_cases hu:u < 1048576
 ·have hb:Nat.ble 1048576 u=false:=by cases h:Nat.ble 1048576 u;rfl;exact absurd (Nat.le_of_ble_eq_true h) (by omega)
  simp only [hb,cond_false,OT.get,OT.put,dQ.get_put];by_cases e:u=i
  ·subst e;simp [dQ.get_put]
  ·rw [if_neg e];by_cases h0:iY (i / 65536)=iY (u / 65536)
   ·have e0:=nZ (by omega) (by omega) h0;rw [if_pos h0,dQ.get_put,h0];by_cases h1:iY (i / 4096 % 16)=iY (u / 4096 % 16)
    ·have e1:=nZ (by omega) (by omega) h1;rw [if_pos h1,dQ.get_put,h1];by_cases h2:iY (i / 256 % 16)=iY (u / 256 % 16)
     ·have e2:=nZ (by omega) (by omega) h2;rw [if_pos h2,dQ.get_put,h2];by_cases h3:iY (i / 16 % 16)=iY (u / 16 % 16)
      ·have e3:=nZ (by omega) (by omega) h3;rw [if_pos h3,dQ.get_put,h3,if_neg (fun h4=>by have:=nZ (by omega) (by omega) h4;omega)]
      ·rw [if_neg h3]
     ·rw [if_neg h2]
    ·rw [if_neg h1]
   ·rw [if_neg h0]
 ·have hb:Nat.ble 1048576 u=true:=Nat.ble_eq_true_of_le (by omega);simp only [hb,cond_true];rw [if_neg (by omega)]
theorem OT.FV:OT.nil.fn=fun _=>none:=by
 funext t;unfold OT.fn OT.nil OT.get;simp only [dQ.HZ];cases Nat.ble 1048576 t<;>rfl
end Go.Am
namespace Go.Am
set_option linter.unusedSectionVars false
variable {P:Program} [Gl]
def allT:List Bool→Bool
 | []=>true
 | b::r=>match b with
   | true=>allT r
   | false=>false
theorem kY:∀{l:List Bool},allT l=true→∀b∈l,b=true
 | [],_,b,h=>by simp at h
 | x::r,h,b,hb=>by
   simp only [allT] at h;split at h
   ·rcases List.mem_cons.1 hb with rfl | hb
    ·rfl
    ·exact kY h b hb
   ·cases h
abbrev VN:=RT×OT×Nat
abbrev mD:=Nat→List RV→OT→Nat→Option (RV×OT×Nat)
noncomputable def qB (O:OT):List (Nat×av)→OT
 | []=>O
 | (i,p)::r=>qB (O.put i (some p)) r
noncomputable def jK (R:RT) (dst:Option Nat) (v:RV):RT:=
 match dst with
 | none=>R
 | some d=>R.put d v
def og:List (Nat×av)→Bool
 | []=>true
 | (i,_)::r=>bif Nat.ble i 1048575 then og r else false
def QG (nx:Nat):List (Nat×av)→Nat
 | []=>nx
 | u=>nx+(u.length+1)
noncomputable def yA (R:RT) (O:OT) (nx:Nat) (dst:Option Nat) (r:Option (dz×Bool)):Option VN:=
 match r with
 | none=>none
 | some (res,_)=>match res with
   | { val:=v,upd:=u,conds:=c }=>bif allT c then
       match u with
       | []=>some (jK R dst v,O,nx)
       | _::_=>bif og u then some (jK R dst v,qB O u,QG nx u) else none
     else none
noncomputable def H6 (cf:dX) (has:Nat→Bool) (call:mD) (ops:Array Oper) (R:RT) (O:OT) (nx:Nat) (o:Oper):Option VN:=
 match guardOf R.fn ops o with
 | none=>none
 | some false=>some (jK R o.dst .und,O,nx)
 | some true=>match o.op with
   | .move x=>some (jK R o.dst (aN R.fn x),O,nx)
   | .assign x=>some (jK R o.dst (aN R.fn x),O,nx)
   | .call c=>match c.callee with
     | .value f=>match aN R.fn f with
       | .gI (.func g) first caps=>bif cf.eH g then
          match (bif has g then iA cf.K (cf.dD g) O.fn nx g (first++c.args.toList.map (aN R.fn)++caps) else none) with
          | some res=>yA R O nx o.dst (some (res,false))
          | none=>match call g (first++c.args.toList.map (aN R.fn)++caps) O nx with
            | some (v,O',nx')=>some (jK R o.dst v,O',nx')
            | none=>none
         else none
       | _=>none
     | _=>yA R O nx o.dst (mK cf R.fn O.fn nx o)
   | _=>yA R O nx o.dst (mK cf R.fn O.fn nx o)
noncomputable def FW (cf:dX) (has:Nat→Bool) (call:mD) (ops:Array Oper):List Oper→RT→OT→Nat→Option VN
 | [],R,O,nx=>some (R,O,nx)
 | o::r,R,O,nx=>match H6 cf has call ops R O nx o with
   | some (R',O',nx')=>FW cf has call ops r R' O' nx'
   | none=>none
noncomputable def vQ (cf:dX) (ops:Array Oper) (O:Tab):List Oper→RT→Option RT
 | [],R=>some R
 | o::r,R=>match kG cf ops [] R.fn O o with
   | none=>none
   | some (v,c,_)=>bif allT c then vQ cf ops O r (jK R o.dst v) else none
noncomputable def vE (cf:dX) (ops:Array Oper) (n z:Nat):List Oper→RT→OT→List (List Nat×List Nat)→Option (RT×OT×List (List Nat×List Nat))
 | [],R,O,rs=>some (R,O,rs)
 | o::r,R,O,rs=>match qO cf ops [] R.fn (nJ (foot R.fn O.fn o) O.fn) (bI n z o) o with
   | none=>none
   | some (v,u,c,_)=>bif allT c&&og u&&lJ O.fn (foot R.fn O.fn o) (bI n z o::(bI n z o+1)::bM u) then
      vE cf ops n z r (jK R o.dst v) (qB O u) (rs++[(foot R.fn O.fn o++bI n z o::(bI n z o+1)::bM u,bM u)])
     else none
def fK (o:Oper):Bool:=match o.op with
 | .call _=>match o.op with
   | .call c=>match c.callee with
     | .builtin b=>match b with
       | .append=>false
       | .copy=>false
       | .clear=>false
       | .delete=>false
       | _=>true
     | _=>false
   | _=>false
 | .alloc _=>false
 | .box _ _=>false
 | .buildSlice _ _ _=>false
 | .store _ _ _=>false
 | .makeSlice _ _ _=>false
 | .makeMap _ _=>false
 | .mapUpdate _ _ _ _=>false
 | .convert _ _ _=>false
 | _=>true
def OL:List Oper→Nat→Nat
 | [],m=>m
 | o::r,m=>match o.dst with
   | some d=>OL r (bif Nat.ble d m then d else m)
   | none=>OL r m
def Rz:List Oper→Nat→Nat
 | [],m=>m
 | o::r,m=>match o.dst with
   | some d=>Rz r (bif Nat.ble m d then d else m)
   | none=>Rz r m
noncomputable def Ai:Nat→List av→OT→OT
 | _,[],O=>O
 | i,p::r,O=>Ai (i+1) r (O.put i (some p))
def collect (m:Nat) (r:RV) (O:Tab):Option (RV×List av):=
 let ps:=List.range m++(reach O 400 (r.refs 6++(List.range m).flatMap fun i=>sS (O i)) []).filter (fun i=>Nat.ble m i)
 bif nodupB ps then
  match r.ren (fun i=>idx i ps 0) 6,eG (fun i=>match O i with | some p=>p.ren (fun i=>idx i ps 0) | none=>none) ps with
  | some r',some os=>some (r',os)
  | _,_=>none
 else none
noncomputable def Jm (call:mD):uD:=fun f args objs=>
 bif Nat.ble objs.length 4000 then
  match call f args (Ai 0 objs OT.nil) 4096 with
  | some (r,O',_)=>match collect objs.length r O'.fn with
    | some (r',os)=>some (r',os,[])
    | none=>none
  | none=>none
 else none
noncomputable def Ck (cf:dX) (has:Nat→Bool) (call:mD) (n:Nat) (ops:Array Oper) (draw:Bool) (R:RT) (O:OT) (nx:Nat):Option VN:=
 bif dF n ops then
  match draw with
  | false=>FW cf has call ops ops.toList R O nx
  | true=>bif iP ops then
     bif ops.toList.all fK then
      match vQ cf ops O.fn ops.toList R with
      | some R'=>some (R',O,nx)
      | none=>none
     else match vE { cf with K:=Wx cf.K (Jm call),dD:=fun _=>true,diff:=true } ops n (nx-32*OL ops.toList n) ops.toList R O [] with
      | some (R',O',rs)=>bif pF rs (zx ops.toList []) then some (R',O',nx+32*(Rz ops.toList 0+2-OL ops.toList n)) else none
      | none=>none
    else none
 else none
noncomputable def Aj:Nat→List RV→RT→RT
 | _,[],R=>R
 | i,v::r,R=>Aj (i+1) r (R.put i v)
end Go.Am
namespace Go.Am
set_option linter.unusedSectionVars false
variable {P:Program} [Gl] [Df]
theorem tN {R:Nat→RV} {dst:Option Nat} {v:RV} {d:Nat} (h:dst≠some d):iX R dst v d=R d:=by
 cases dst with
 | none=>rfl
 | some e=>
   have:d≠e:=fun x=>h (by rw [x])
   simp [iX,jh,this]
theorem Cm {R:Nat→RV} {dst:Option Nat} {v:RV} {d:Nat} (h:dst=some d):iX R dst v d=v:=by
 subst h;simp [iX,jh]
def tO (cf:dX) (ops:Array Oper) (ov:Ov) (O:Tab):List Oper→(Nat→RV)→List Bool→List (RV×RV)→Option ((Nat→RV)×List Bool×List (RV×RV))
 | [],R,cs,es=>some (R,cs,es)
 | o::r,R,cs,es=>match kG cf ops ov R O o with
   | none=>none
   | some (v,c,e)=>tO cf ops ov O r (iX R o.dst v) (cs++c) (es++e)
theorem su {cf:dX} {ops:Array Oper} {ov:Ov} {O:Tab}:∀(l:List Oper) (R R' : Nat→RV) (cs cs' : List Bool) (es es' : List (RV×RV)),tO cf ops ov O l R cs es=some (R',cs',es')→
 (∀c∈cs,c∈cs')∧(∀e∈es,e∈es')∧(∀d,(∀o∈l,o.dst≠some d)→R' d=R d)
 | [],R,R',cs,cs',es,es',h=>by
   simp [tO] at h;obtain ⟨rfl,rfl,rfl⟩:=h;exact ⟨fun _ h=>h,fun _ h=>h,fun _ _=>rfl⟩
 | o::r,R,R',cs,cs',es,es',h=>by
   simp only [tO] at h;cases h1:kG cf ops ov R O o with
   | none=>rw [h1] at h;simp at h
   | some p=>
     obtain ⟨v,c,e⟩:=p;rw [h1] at h;simp only at h;obtain ⟨q1,q2,q3⟩:=su r _ _ _ _ _ _ h;refine ⟨fun c hc=>q1 c (by simp [hc]),fun e he=>q2 e (by simp [he]),fun d hh=>?_⟩;rw [q3 d (fun o ho=>hh o (by simp [ho])),tN (hh o (by simp))]
theorem El {cf:dX} {ops:Array Oper} {ov:Ov} {O:Tab}:∀(l:List Oper) (R0 R' : Nat→RV) (cs cs' : List Bool) (es es' : List (RV×RV)),tO cf ops ov O l R0 cs es=some (R',cs',es')→
 (∀(i j:Nat) (p q:Oper) (d:Nat),l[i]? = some p→l[j]? = some q→p.dst=some d→q.dst=some d→i=j)→
 ∀(j:Nat) (o:Oper),l[j]? = some o→∃(R:Nat→RV) (v:RV) (c:List Bool) (e:List (RV×RV)),kG cf ops ov R O o=some (v,c,e)∧(∀x∈c,x∈cs')∧(∀x∈e,x∈es')∧
  (∀d,o.dst=some d→R' d=v)∧(∀d,(∀(i:Nat) (p:Oper),i < j→l[i]? = some p→p.dst≠some d)→R d=R0 d)∧
  (∀(i:Nat) (p:Oper) (d:Nat),i < j→l[i]? = some p→p.dst=some d→R d=R' d)
 | [],R0,R',cs,cs',es,es',h,hnd,j,o,hj=>by simp at hj
 | o0::r,R0,R',cs,cs',es,es',h,hnd,j,o,hj=>by
   simp only [tO] at h;cases h1:kG cf ops ov R0 O o0 with
   | none=>rw [h1] at h;simp at h
   | some p=>
     obtain ⟨v,c,e⟩:=p;rw [h1] at h;simp only at h
     have hnd' : ∀(i j:Nat) (p q:Oper) (d:Nat),r[i]? = some p→r[j]? = some q→p.dst=some d→q.dst=some d→i=j:=fun i j p q d hi hj' hp hq=>by
      have:=hnd (i+1) (j+1) p q d (by simpa using hi) (by simpa using hj') hp hq;omega
     obtain ⟨m1,m2,m3⟩:=su r _ _ _ _ _ _ h;cases j with
     | zero=>
       simp at hj;subst hj;refine ⟨R0,v,c,e,h1,fun x hx=>m1 x (by simp [hx]),fun x hx=>m2 x (by simp [hx]),fun d hd=>?_,fun d _=>rfl,fun i p d hi=>by omega⟩
       rw [m3 d (fun q hq qN=>by
        obtain ⟨k,hk⟩:=List.mem_iff_getElem?.1 hq
        have:=hnd 0 (k+1) o0 q d rfl (by simpa using hk) hd qN;omega)]
       exact Cm hd
     | succ j=>
       obtain ⟨R,v',c',e',k1,k2,k3,k4,k5,k6⟩:=El r _ R' _ _ _ _ h hnd' j o (by simpa using hj);refine ⟨R,v',c',e',k1,k2,k3,k4,fun d hd=>?_,fun i p d hi hp wI=>?_⟩
       ·rw [k5 d (fun i p hi hp=>hd (i+1) p (by omega) (by simpa using hp)),tN (hd 0 o0 (by omega) rfl)]
       ·cases i with
        | zero=>
          simp at hp;subst hp
          rw [k5 d (fun i q hi hq qN=>by
           have:=hnd 0 (i+1) o0 q d rfl (by simpa using hq) wI qN;omega)]
          rw [m3 d (fun q hq qN=>by
           obtain ⟨k,hk⟩:=List.mem_iff_getElem?.1 hq
           have:=hnd 0 (k+1) o0 q d rfl (by simpa using hk) wI qN;omega)]
        | succ i=>exact k6 i p d (by omega) (by simpa using hp) wI
theorem FX {cf:dX} (hcf:jE P cf) {ops:Array Oper} {ov:Ov} {s:cu} {R0 R' : Nat→RV} {cs:List Bool} {es:List (RV×RV)} {m:Nat} {κ0:bE} {w0:World} {φ0:bP}
 (hq:iP ops=true) (hg:dF s.n ops=true) (hs:s.R=R0) (hrun:tO cf ops ov s.O ops.toList R0 [] []=some (R',cs,es)) (hc:∀c∈cs,c=true) (he:∀e∈es,jF e.1 e.2) :
 (∀(fuel:Nat) (L:Array Bool) (κ:bE) (φ:bP) (w:World) (a:Act),L.size=ops.size→L.toList.countP (· == false)=fuel→
   (∀(j:Nat) (o:Oper),ops[j]? = some o→L.getD j false=true→∀e∈o.after,Region.binds .any e=true→L.getD e.on false=true)→aA κ φ w { s with R:=bU ops s.R R' L } a→
   Fr κ0 w0 κ w→nP m φ0 s.O φ s.O→
   wpAny P .any ops (fun e a' w'=>e = .normal∧∃κ' φ',aA κ' φ' w' { s with R:=R' } a'∧Fr κ0 w0 κ' w'∧nP m φ0 s.O φ' s.O) fuel L a w):=by
 have hnd:∀(i j:Nat) (p q:Oper) (d:Nat),ops.toList[i]? = some p→ops.toList[j]? = some q→p.dst=some d→q.dst=some d→i=j:=by
  intro i j p q d hi hj hp qN;rcases ((dh hq (j:=j) (o:=q) (by simpa using hj)).2 i p d (by simpa using hi) hp).1 with h | h
  ·exact h
  ·exact absurd qN h
 have hat:=El ops.toList R0 R' [] cs [] es hrun hnd;have hout:=(su ops.toList R0 R' [] cs [] es hrun).2.2
 have full:∀(L:Array Bool),L.size=ops.size→(∀i,i < ops.size→L.getD i true=true)→bU ops s.R R' L=R':=by
  intro L hL hall;funext d;unfold bU;split
  ·rfl
  ·rename_i hne;rw [hs,hout d (fun o ho hd=>hne ?_)];obtain ⟨i,hi⟩:=List.mem_iff_getElem?.1 ho;have hi' : ops[i]? = some o:=by simpa using hi
   have hlt:=(Array.getElem?_eq_some_iff.1 hi').1;have hlt2:i < L.size:=by omega
   have:=hall i hlt
   exact ⟨i,o,hi',hd,by simp [Array.getD,hlt2] at this ⊢;exact this⟩
 intro fuel;induction fuel with
 | zero=>
   intro L κ φ w a hL hcnt hcl F hR hK;have hall:=lH hcnt;rw [full L hL (fun i hi=>hall i (by omega))] at F;refine ⟨?_,rfl,κ,φ,F,hR,hK⟩;cases hr:Region.ready .any ops L with
   | nil=>rfl
   | cons i r=>
     obtain ⟨o,_,h1,h2,_⟩:=mem_ready (md:=.any) (ops:=ops) (L:=L) (i:=i) (by rw [hr];simp);rw [hall i (by omega)] at h2;cases h2
 | succ fuel ih=>
   intro L κ φ w a hL hcnt hcl F hR hK;refine ⟨fun hr=>?_,fun j hj=>?_⟩
   ·have hall:=ready_nil hL (fun j o ho=>(dh hq ho).1) hr;rw [full L hL hall] at F;exact ⟨rfl,κ,φ,F,hR,hK⟩
   ·obtain ⟨o,ho,hjn,hlj,iK⟩:=mem_ready hj;obtain ⟨R,v,c,e,k1,k2,k3,k4,k5,k6⟩:=hat j o (by simpa using ho);obtain ⟨s1,s2⟩:=dh hq ho
    have same:∀d,d∈looks o ops→bU ops s.R R' L d=R d:=by
     intro d hd;by_cases hw:∃(i:Nat) (p:Oper),ops[i]? = some p∧p.dst=some d
     ·obtain ⟨i,p,hi,hp⟩:=hw;rcases (s2 i p d hi hp).2 hd with ⟨hij,ed,he1,he2,xY⟩ | ⟨hij,ed,he1,he2,xY⟩
      ·have OG:L.getD i false=true:=by rw [←he2];exact iK ed he1 xY
       unfold bU;rw [if_pos ⟨i,p,hi,hp,OG⟩];exact (k6 i p d hij (by simpa using hi) hp).symm
      ·have oZ:L.getD j false=false:=by
        have:j < L.size:=by omega
        simp [Array.getD,this] at hlj ⊢;exact hlj
       have only:∀(i' : Nat) (p' : Oper),ops[i']? = some p'→p'.dst=some d→i'=i:=fun i' p' h1 h2=>hnd i' i p' p d (by simpa using h1) (by simpa using hi) h2 hp;unfold bU
       rw [if_neg (fun ⟨i',p',h1,h2,h3⟩=>by
        have e:=only i' p' h1 h2;subst e;rw [h1] at hi;injection hi with hi;subst hi
        have:=hcl i' p' h1 h3 ed he1 xY
        rw [he2,oZ] at this;cases this),hs]
       exact (k5 d (fun i' p' h0 h1 h2=>by have:=only i' p' (by simpa using h1) h2;omega)).symm
     ·unfold bU;rw [if_neg (fun ⟨i,p,hi,hp,_⟩=>hw ⟨i,p,hi,hp⟩),hs];exact (k5 d (fun i p _ hp wI=>hw ⟨i,p,by simpa using hp,wI⟩)).symm
    have KT:kG cf ops ov (bU ops s.R R' L) s.O o=some (v,c,e):=by
     rw [←k1]
     have h1:guardOf (bU ops s.R R' L) ops o=guardOf R ops o:=by
      unfold guardOf;cases hgu:o.guard with
      | none=>rfl
      | some p=>
        obtain ⟨g,want⟩:=p;simp only;cases hog:ops[g]? with
        | none=>rfl
        | some gg=>
          simp only;cases hgd:gg.dst with
          | none=>rfl
          | some d=>
            simp only;rw [same d (by simp only [looks,List.mem_append];right;rw [hgu];simp only [hog,hgd];simp)]
     have h2:mK cf (bU ops s.R R' L) s.O 0 o=mK cf R s.O 0 o:=nW fun x hx=>lG fun d hd=>by
      subst hd;refine same d ?_;simp only [looks,List.mem_append,List.mem_filterMap];left;exact ⟨.tmp d,by simpa using hx,rfl⟩
     unfold kG;rw [h1,h2]
    refine BJ hcf F KT (fun x hx=>hc x (k2 x hx)) (fun x hx=>he x (k3 x hx)) ho (dw hg) (fun a' w' κ' φ' g1 g2 g3=>?_)
    have hset:iX (bU ops s.R R' L) o.dst v=bU ops s.R R' (L.setIfInBounds j true):=by
     funext d
     have hget:∀i,(L.setIfInBounds j true).getD i false=if i=j then true else L.getD i false:=by
      intro i;simp only [Array.getD_eq_getD_getElem?,Array.getElem?_setIfInBounds];by_cases e:i=j
      ·subst e;have:i < L.size:=by omega
       simp [this]
      ·have:¬j=i:=fun h=>e h.symm
       simp [e,this]
     cases hd:o.dst with
     | none=>
       simp only [iX];unfold bU;congr 1;apply propext;constructor
       ·rintro ⟨i,p,h1,h2,h3⟩
        exact ⟨i,p,h1,h2,by rw [hget];split;rfl;exact h3⟩
       ·rintro ⟨i,p,h1,h2,h3⟩
        rw [hget] at h3;by_cases e:i=j
        ·subst e;rw [ho] at h1;injection h1 with h1;subst h1;rw [hd] at h2;cases h2
        ·rw [if_neg e] at h3;exact ⟨i,p,h1,h2,h3⟩
     | some d0=>
       simp only [iX,jh];by_cases e0:d=d0
       ·subst e0;rw [if_pos rfl];unfold bU;rw [if_pos ⟨j,o,ho,hd,by rw [hget];simp⟩,k4 d hd]
       ·rw [if_neg e0];unfold bU;congr 1;apply propext;constructor
        ·rintro ⟨i,p,h1,h2,h3⟩
         exact ⟨i,p,h1,h2,by rw [hget];split;rfl;exact h3⟩
        ·rintro ⟨i,p,h1,h2,h3⟩
         rw [hget] at h3;by_cases e:i=j
         ·subst e;rw [ho] at h1;injection h1 with h1;subst h1;rw [hd] at h2;injection h2 with h2;exact absurd h2.symm e0
         ·rw [if_neg e] at h3;exact ⟨i,p,h1,h2,h3⟩
    have g1' : aA κ' φ' w' { s with R:=bU ops s.R R' (L.setIfInBounds j true) } a':=by rw [←hset];exact g1
    have hc2:=count_set (L:=L) (i:=j) (by omega) hlj
    have hget:∀i,(L.setIfInBounds j true).getD i false=if i=j then true else L.getD i false:=by
     intro i;simp only [Array.getD_eq_getD_getElem?,Array.getElem?_setIfInBounds];by_cases e:i=j
     ·subst e;have:i < L.size:=by omega
      simp [this]
     ·have:¬j=i:=fun h=>e h.symm
      simp [e,this]
    have hcl' : ∀(j' : Nat) (o' : Oper),ops[j']? = some o'→(L.setIfInBounds j true).getD j' false=true→∀e∈o'.after,Region.binds .any e=true→(L.setIfInBounds j true).getD e.on false=true:=by
     intro j' o' ho' hl' e he' hb';rw [hget] at hl' ⊢;split
     ·rfl
     ·by_cases ej:j'=j
      ·subst ej;rw [ho] at ho';injection ho' with ho';subst ho';exact iK e he' hb'
      ·rw [if_neg ej] at hl';exact hcl j' o' ho' hl' e he' hb'
    exact ih (L.setIfInBounds j true) κ' φ' w' a' (by simpa using hL) (by omega) hcl' g1' (hR.trans g2) (hK.trans (g3.m m))
def rG (cf:dX) (ops:Array Oper) (ov:Ov) (n z:Nat):List Oper→(Nat→RV)→Tab→List Bool→List (RV×RV)→List (List Nat×List Nat)→Option ((Nat→RV)×Tab×List Bool×List (RV×RV)×List (List Nat×List Nat))
 | [],R,O,cs,es,rs=>some (R,O,cs,es,rs)
 | o::r,R,O,cs,es,rs=>
   match qO cf ops ov R (nJ (foot R O o) O) (bI n z o) o with
   | none=>none
   | some (v,u,c,e)=>
     bif lJ O (foot R O o) (bI n z o::(bI n z o+1)::bM u) then
      rG cf ops ov n z r (iX R o.dst v) (aX O u) (cs++c) (es++e) (rs++[(foot R O o++bI n z o::(bI n z o+1)::bM u,bM u)])
     else none
theorem sw {cf:dX} {ops:Array Oper} {ov:Ov} {n z:Nat}:∀(l:List Oper) (R R' : Nat→RV) (O O' : Tab) (cs cs' : List Bool) (es es' : List (RV×RV)) (rs rs' : List (List Nat×List Nat)),
 rG cf ops ov n z l R O cs es rs=some (R',O',cs',es',rs')→(∀c∈cs,c∈cs')∧(∀e∈es,e∈es')∧(∀d,(∀o∈l,o.dst≠some d)→R' d=R d)
 | [],R,R',O,O',cs,cs',es,es',rs,rs',h=>by
   simp [rG] at h;obtain ⟨rfl,rfl,rfl,rfl,rfl⟩:=h;exact ⟨fun _ h=>h,fun _ h=>h,fun _ _=>rfl⟩
 | o::r,R,R',O,O',cs,cs',es,es',rs,rs',h=>by
   simp only [rG] at h;split at h
   ·simp at h
   ·rename_i v u c e h1;cases hb0:(lJ O (foot R O o) (bI n z o::(bI n z o+1)::bM u)) with
    | false=>rw [hb0] at h;simp at h
    | true=>
      rw [hb0] at h;simp only [cond_true] at h;obtain ⟨q1,q2,q3⟩:=sw r _ _ _ _ _ _ _ _ _ _ h;refine ⟨fun c hc=>q1 c (by simp [hc]),fun e he=>q2 e (by simp [he]),fun d hh=>?_⟩;rw [q3 d (fun o ho=>hh o (by simp [ho])),tN (hh o (by simp))]
theorem Em {cf:dX} {ops:Array Oper} {ov:Ov} {n z:Nat}:∀(l:List Oper) (R0 R' : Nat→RV) (O0 O' : Tab) (cs cs' : List Bool) (es es' : List (RV×RV)) (rs rs' : List (List Nat×List Nat)),
 rG cf ops ov n z l R0 O0 cs es rs=some (R',O',cs',es',rs')→
 (∀(i j:Nat) (p q:Oper) (d:Nat),l[i]? = some p→l[j]? = some q→p.dst=some d→q.dst=some d→i=j)→
 ∃(us:List (List (Nat×av))) (rr:List (List Nat×List Nat)),us.length=l.length∧rs'=rs++rr∧rr.length=l.length∧O'=us.foldl aX O0∧
 ∀(j:Nat) (o:Oper),l[j]? = some o→∃(R:Nat→RV) (F:List Nat) (v:RV) (u:List (Nat×av)) (c:List Bool) (e:List (RV×RV)),
  qO cf ops ov R (nJ F ((us.take j).foldl aX O0)) (bI n z o) o=some (v,u,c,e)∧us[j]? = some u∧rr[j]? = some (F++bI n z o::(bI n z o+1)::bM u,bM u)∧
  lJ ((us.take j).foldl aX O0) F (bI n z o::(bI n z o+1)::bM u)=true∧(∀x∈c,x∈cs')∧(∀x∈e,x∈es')∧
  (∀d,o.dst=some d→R' d=v)∧(∀d,(∀(i:Nat) (p:Oper),i < j→l[i]? = some p→p.dst≠some d)→R d=R0 d)∧
  (∀(i:Nat) (p:Oper) (d:Nat),i < j→l[i]? = some p→p.dst=some d→R d=R' d)
 | [],R0,R',O0,O',cs,cs',es,es',rs,rs',h,hnd=>by
   simp [rG] at h;obtain ⟨rfl,rfl,rfl,rfl,rfl⟩:=h;exact ⟨[],[],rfl,by simp,rfl,rfl,fun j o hj=>by simp at hj⟩
 | o0::r,R0,R',O0,O',cs,cs',es,es',rs,rs',h,hnd=>by
   simp only [rG] at h;split at h
   ·simp at h
   ·rename_i v u c e h1;cases hb0:(lJ O0 (foot R0 O0 o0) (bI n z o0::(bI n z o0+1)::bM u)) with
    | false=>rw [hb0] at h;simp at h
    | true=>
      rw [hb0] at h;simp only [cond_true] at h
      have hnd' : ∀(i j:Nat) (p q:Oper) (d:Nat),r[i]? = some p→r[j]? = some q→p.dst=some d→q.dst=some d→i=j:=fun i j p q d hi hj' hp hq=>by
       have:=hnd (i+1) (j+1) p q d (by simpa using hi) (by simpa using hj') hp hq;omega
      obtain ⟨m1,m2,m3⟩:=sw r _ _ _ _ _ _ _ _ _ _ h;obtain ⟨us,rr,a1,a2,a3,a4,a5⟩:=Em r _ R' _ _ _ _ _ _ _ _ h hnd';refine ⟨u::us,(foot R0 O0 o0++bI n z o0::(bI n z o0+1)::bM u,bM u)::rr,by simp [a1],by rw [a2];simp,by simp [a3],by rw [a4];rfl,fun j o hj=>?_⟩;cases j with
      | zero=>
        simp at hj;subst hj;refine ⟨R0,foot R0 O0 o0,v,u,c,e,h1,rfl,rfl,hb0,fun x hx=>m1 x (by simp [hx]),fun x hx=>m2 x (by simp [hx]),fun d hd=>?_,fun d _=>rfl,fun i p d hi=>by omega⟩
        rw [m3 d (fun q hq qN=>by
         obtain ⟨k,hk⟩:=List.mem_iff_getElem?.1 hq
         have:=hnd 0 (k+1) o0 q d rfl (by simpa using hk) hd qN;omega)]
        exact Cm hd
      | succ j=>
        obtain ⟨R,F,v',u',c',e',k1,k2,k3,k4,k5,k6,k7,k8,k9⟩:=a5 j o (by simpa using hj);refine ⟨R,F,v',u',c',e',by simpa using k1,by simpa using k2,by simpa using k3,by simpa using k4,k5,k6,k7,fun d hd=>?_,fun i p d hi hp wI=>?_⟩
        ·rw [k8 d (fun i p hi hp=>hd (i+1) p (by omega) (by simpa using hp)),tN (hd 0 o0 (by omega) rfl)]
        ·cases i with
         | zero=>
           simp at hp;subst hp
           rw [k8 d (fun i q hi hq qN=>by
            have:=hnd 0 (i+1) o0 q d rfl (by simpa using hq) wI qN;omega)]
           rw [m3 d (fun q hq qN=>by
            obtain ⟨k,hk⟩:=List.mem_iff_getElem?.1 hq
            have:=hnd 0 (k+1) o0 q d rfl (by simpa using hk) wI qN;omega)]
         | succ i=>exact k9 i p d (by omega) (by simpa using hp) wI
theorem Lc {cf:dX} (hcf:jE P cf) {ops:Array Oper} {ov:Ov} {s:cu} {R0 R' : Nat→RV} {O0 O' : Tab} {cs:List Bool} {es:List (RV×RV)} {rs:List (List Nat×List Nat)} {z m:Nat} {κ:bE} {φ:bP} {w:World} {a:Act}
 (hq:iP ops=true) (hg:dF s.n ops=true) (hs:s.R=R0) (hsO:s.O=O0) (hrun:rG cf ops ov s.n z ops.toList R0 O0 [] [] []=some (R',O',cs,es,rs))
 (hrows:pF rs (zx ops.toList [])=true) (hc:∀c∈cs,c=true) (he:∀e∈es,jF e.1 e.2) (F0:aA κ φ w s a) :
 wpAny P .any ops (fun e a' w'=>e = .normal∧∃κ' φ',aA κ' φ' w' { s with R:=R',O:=O' } a'∧Fr κ w κ' w'∧nP m φ s.O φ' O') ops.size (Array.replicate ops.size false) a w:=by
 have hnd:∀(i j:Nat) (p q:Oper) (d:Nat),ops.toList[i]? = some p→ops.toList[j]? = some q→p.dst=some d→q.dst=some d→i=j:=by
  intro i j p q d hi hj hp qN;rcases ((dh hq (j:=j) (o:=q) (by simpa using hj)).2 i p d (by simpa using hi) hp).1 with h | h
  ·exact h
  ·exact absurd qN h
 obtain ⟨us,rr,ul,hrs,rl,DL,hat⟩:=Em ops.toList R0 R' O0 O' [] cs [] es [] rs hrun hnd;rw [List.nil_append] at hrs;subst hrs;have hout:=(sw ops.toList R0 R' O0 O' [] cs [] es [] rs hrun).2.2;have Y7:us.length=ops.size:=by simpa using ul
 have KV:=qx (ops:=ops) ops.toList [] (fun i o hi=>by simpa using hi) (fun i k h=>by simp at h)
 have full:∀(L:Array Bool),L.size=ops.size→(∀i,i < ops.size→L.getD i true=true)→bU ops s.R R' L=R'∧iC (fun i=>L.getD i false) 0 us s.O=O':=by
  intro L hL hall
  have Ee:∀i,i < ops.size→L.getD i false=true:=fun i hi=>by
   have hlt2:i < L.size:=by omega
   have:=hall i hi
   simp [Array.getD,hlt2] at this ⊢;exact this
  constructor
  ·funext d;unfold bU;split
   ·rfl
   ·rename_i hne;rw [hs,hout d (fun o ho hd=>hne ?_)];obtain ⟨i,hi⟩:=List.mem_iff_getElem?.1 ho;have hi' : ops[i]? = some o:=by simpa using hi
    exact ⟨i,o,hi',hd,Ee i (Array.getElem?_eq_some_iff.1 hi').1⟩
  ·rw [DL,hsO];funext i;have e1:=nI us 0 us.length O0;rw [List.take_length] at e1;rw [←e1];refine lI us 0 _ _ rfl (fun j u hu _=>?_);have hj:=(List.getElem?_eq_some_iff.1 hu).1;rw [Nat.zero_add,Ee j (by omega)];simp [hj]
 have main:∀(fuel:Nat) (L:Array Bool) (κ1:bE) (φ1:bP) (w1:World) (a1:Act),L.size=ops.size→L.toList.countP (· == false)=fuel→
  (∀(j:Nat) (o:Oper),ops[j]? = some o→L.getD j false=true→∀e∈o.after,Region.binds .any e=true→L.getD e.on false=true)→
  aA κ1 φ1 w1 { s with R:=bU ops s.R R' L,O:=iC (fun i=>L.getD i false) 0 us s.O } a1→
  Fr κ w κ1 w1→nP m φ s.O φ1 (iC (fun i=>L.getD i false) 0 us s.O)→
  wpAny P .any ops (fun e a' w'=>e = .normal∧∃κ' φ',aA κ' φ' w' { s with R:=R',O:=O' } a'∧Fr κ w κ' w'∧nP m φ s.O φ' O') fuel L a1 w1:=by
  intro fuel;induction fuel with
  | zero=>
    intro L κ1 φ1 w1 a1 hL hcnt hcl F hR hK;have hall:=lH hcnt;obtain ⟨f1,f2⟩:=full L hL (fun i hi=>hall i (by omega));rw [f1,f2] at F;rw [f2] at hK;refine ⟨?_,rfl,κ1,φ1,F,hR,hK⟩;cases hr:Region.ready .any ops L with
    | nil=>rfl
    | cons i r=>
      obtain ⟨o,_,h1,h2,_⟩:=mem_ready (md:=.any) (ops:=ops) (L:=L) (i:=i) (by rw [hr];simp);rw [hall i (by omega)] at h2;cases h2
  | succ fuel ih=>
    intro L κ1 φ1 w1 a1 hL hcnt hcl F hR hK;refine ⟨fun hr=>?_,fun j hj=>?_⟩
    ·have hall:=ready_nil hL (fun j o ho=>(dh hq ho).1) hr;obtain ⟨f1,f2⟩:=full L hL hall;rw [f1,f2] at F;rw [f2] at hK;exact ⟨rfl,κ1,φ1,F,hR,hK⟩
    ·obtain ⟨o,ho,hjn,hlj,iK⟩:=mem_ready hj;obtain ⟨R,Fj,v,u,c,e,k1,k2,k3,k4,kc,ke,k5,k6,k7⟩:=hat j o (by simpa using ho);obtain ⟨s1,s2⟩:=dh hq ho
     have oZ:L.getD j false=false:=by
      have:j < L.size:=by omega
      simp [Array.getD,this] at hlj ⊢;exact hlj
     have same:∀d,d∈looks o ops→bU ops s.R R' L d=R d:=by
      intro d hd;by_cases hw:∃(i:Nat) (p:Oper),ops[i]? = some p∧p.dst=some d
      ·obtain ⟨i,p,hi,hp⟩:=hw;rcases (s2 i p d hi hp).2 hd with ⟨hij,ed,he1,he2,xY⟩ | ⟨hij,ed,he1,he2,xY⟩
       ·have OG:L.getD i false=true:=by rw [←he2];exact iK ed he1 xY
        unfold bU;rw [if_pos ⟨i,p,hi,hp,OG⟩];exact (k7 i p d hij (by simpa using hi) hp).symm
       ·have only:∀(i' : Nat) (p' : Oper),ops[i']? = some p'→p'.dst=some d→i'=i:=fun i' p' h1 h2=>hnd i' i p' p d (by simpa using h1) (by simpa using hi) h2 hp;unfold bU
        rw [if_neg (fun ⟨i',p',h1,h2,h3⟩=>by
         have e:=only i' p' h1 h2;subst e;rw [h1] at hi;injection hi with hi;subst hi
         have:=hcl i' p' h1 h3 ed he1 xY
         rw [he2,oZ] at this;cases this),hs]
        exact (k6 d (fun i' p' h0 h1 h2=>by have:=only i' p' (by simpa using h1) h2;omega)).symm
      ·unfold bU;rw [if_neg (fun ⟨i,p,hi,hp,_⟩=>hw ⟨i,p,hi,hp⟩),hs];exact (k6 d (fun i p _ hp wI=>hw ⟨i,p,by simpa using hp,wI⟩)).symm
     have Ca:guardOf (bU ops s.R R' L) ops o=guardOf R ops o:=by
      unfold guardOf;cases hgu:o.guard with
      | none=>rfl
      | some p=>
        obtain ⟨g,want⟩:=p;simp only;cases hog:ops[g]? with
        | none=>rfl
        | some gg=>
          simp only;cases hgd:gg.dst with
          | none=>rfl
          | some d=>
            simp only;rw [same d (by simp only [looks,List.mem_append];right;rw [hgu];simp only [hog,hgd];simp)]
     have KW:∀x∈o.op.operands,aN R x=aN (bU ops s.R R' L) x:=fun x hx=>lG fun d hd=>by
      subst hd;refine (same d ?_).symm;simp only [looks,List.mem_append,List.mem_filterMap];left;exact ⟨.tmp d,by simpa using hx,rfl⟩
     have rowAt:∀(x:Nat) (u' : List (Nat×av)),us[x]? = some u'→∃tx,rs[x]? = some (tx,bM u')∧∀i∈bM u',i∈tx:=by
      intro x u' hu';have hx:=(List.getElem?_eq_some_iff.1 hu').1;have hox:ops.toList[x]? = some ops.toList[x]:=by simp [show x < ops.size by omega]
      obtain ⟨_,F',_,u2,_,_,_,g2,g3,_⟩:=hat x _ hox;rw [hu'] at g2;injection g2 with g2;subst g2;exact ⟨_,g3,fun i hi=>by simp [hi]⟩
     have before:∀(x:Nat) (u' : List (Nat×av)) (i:Nat),x < j→us[x]? = some u'→i∈bM u'→i∈(Fj++bI s.n z o::(bI s.n z o+1)::bM u)→L.getD x false=true:=by
      intro x u' i hxj hu' hi ht;obtain ⟨tx,g1,_⟩:=rowAt x u' hu'
      exact (KV j x (mo hrows k3 g1 hxj (.inl (wY hi ht)))).ready (L:=fun i=>L.getD i false) hcl (fun o' ho' e he hb=>by
       rw [ho] at ho';injection ho' with ho';subst ho';exact iK e he hb)
     have after:∀(x:Nat) (u' : List (Nat×av)) (i:Nat),j < x→us[x]? = some u'→i∈bM u'→i∈(Fj++bI s.n z o::(bI s.n z o+1)::bM u)→L.getD x false=false:=by
      intro x u' i hxj hu' hi ht;obtain ⟨tx,g1,_⟩:=rowAt x u' hu';cases hlx:L.getD x false with
      | false=>rfl
      | true=>
        have:=(KV x j (mo hrows g1 k3 hxj (.inr (wY hi ht)))).done (L:=fun i=>L.getD i false) hcl hlx
        rw [oZ] at this;cases this
     have agree:∀i,i∈(Fj++bI s.n z o::(bI s.n z o+1)::bM u)→iC (fun i=>L.getD i false) 0 us s.O i=(us.take j).foldl aX O0 i:=by
      intro i hi;have e1:=nI us 0 j O0;rw [←e1,hsO];refine lI us 0 _ _ rfl (fun x u' hu' hk=>?_);rw [Nat.zero_add,Nat.zero_add];rcases Nat.lt_trichotomy x j with h | h | h
      ·rw [before x u' i h hu' hk hi];simp [h]
      ·subst h;rw [oZ];simp
      ·rw [after x u' i h hu' hk hi]
       have:¬x < j:=by omega
       simp [this]
     have rW:∀i,i∈(bI s.n z o::(bI s.n z o+1)::bM u)→iC (fun i=>L.getD i false) 0 us s.O i=nJ Fj ((us.take j).foldl aX O0) i:=by
      intro i hi;rw [agree i (List.mem_append.2 (.inr hi))];cases hF:(Fj.any fun j=>Nat.beq j i) with
      | true=>rw [tJ hF]
      | false=>
        rw [qz hF]
        have:=List.all_eq_true.1 k4 i hi
        rw [hF] at this;simpa using this
     have hev:qO cf ops ov (bU ops s.R R' L) (iC (fun i=>L.getD i false) 0 us s.O) (bI s.n z o) o=some (v,u,c,e):=by
      refine Ae k1 Ca KW (fun i p hp=>?_) (rW _ (by simp)) (rW _ (by simp)) (fun p hp=>rW _ (by simp [bM];exact .inr (.inr ⟨p.2,hp⟩)));cases hF:(Fj.any fun j=>Nat.beq j i) with
      | true=>
        rw [tJ hF] at hp;rw [agree i (List.mem_append.2 (.inl (HV hF)))];exact hp
      | false=>rw [qz hF] at hp;cases hp
     refine Hy hcf F hev (fun x hx=>hc x (kc x hx)) (fun x hx=>he x (ke x hx)) ho (dw hg) (fun a' w' κ' φ' g1 g2 g3=>?_)
     have hget:∀i,(L.setIfInBounds j true).getD i false=if i=j then true else L.getD i false:=by
      intro i;simp only [Array.getD_eq_getD_getElem?,Array.getElem?_setIfInBounds];by_cases e:i=j
      ·subst e;have:i < L.size:=by omega
       simp [this]
      ·have:¬j=i:=fun h=>e h.symm
       simp [e,this]
     have hset:iX (bU ops s.R R' L) o.dst v=bU ops s.R R' (L.setIfInBounds j true):=by
      funext d;cases hd:o.dst with
      | none=>
        simp only [iX];unfold bU;congr 1;apply propext;constructor
        ·rintro ⟨i,p,h1,h2,h3⟩
         exact ⟨i,p,h1,h2,by rw [hget];split;rfl;exact h3⟩
        ·rintro ⟨i,p,h1,h2,h3⟩
         rw [hget] at h3;by_cases e:i=j
         ·subst e;rw [ho] at h1;injection h1 with h1;subst h1;rw [hd] at h2;cases h2
         ·rw [if_neg e] at h3;exact ⟨i,p,h1,h2,h3⟩
      | some d0=>
        simp only [iX,jh];by_cases e0:d=d0
        ·subst e0;rw [if_pos rfl];unfold bU;rw [if_pos ⟨j,o,ho,hd,by rw [hget];simp⟩,k5 d hd]
        ·rw [if_neg e0];unfold bU;congr 1;apply propext;constructor
         ·rintro ⟨i,p,h1,h2,h3⟩
          exact ⟨i,p,h1,h2,by rw [hget];split;rfl;exact h3⟩
         ·rintro ⟨i,p,h1,h2,h3⟩
          rw [hget] at h3;by_cases e:i=j
          ·subst e;rw [ho] at h1;injection h1 with h1;subst h1;rw [hd] at h2;injection h2 with h2;exact absurd h2.symm e0
          ·rw [if_neg e] at h3;exact ⟨i,p,h1,h2,h3⟩
     have fG:iC (fun i=>(L.setIfInBounds j true).getD i false) 0 us s.O=aX (iC (fun i=>L.getD i false) 0 us s.O) u:=by
      refine pE us 0 j u s.O k2 (by rw [Nat.zero_add];exact oZ) (by rw [Nat.zero_add,hget];simp) (fun x hx=>by rw [hget,if_neg (by omega)]) (fun x u' hx hu' hl i hi hi'=>?_);rw [Nat.zero_add] at hl;rw [after x u' i hx hu' hi' (by simp [hi])] at hl;cases hl
     have hc2:=count_set (L:=L) (i:=j) (by omega) hlj;refine ih (L.setIfInBounds j true) κ' φ' w' a' (by simpa using hL) (by omega) (fun i o' ho' hi e' he' hb'=>?_) ?_ (hR.trans g2) ?_
     ·rw [hget] at hi ⊢;by_cases ej:e'.on=j
      ·rw [if_pos ej]
      ·rw [if_neg ej];by_cases ei:i=j
       ·subst ei;rw [ho] at ho';injection ho' with ho';subst ho';exact iK e' he' hb'
       ·rw [if_neg ei] at hi;exact hcl i o' ho' hi e' he' hb'
     ·rw [←hset,fG];exact g1
     ·rw [fG];exact hK.trans (g3.m m)
 have e0:∀i,(Array.replicate ops.size false).getD i false=false:=fun i=>by
  by_cases hi:i < ops.size<;>simp [Array.getD,hi]
 have m0:iC (fun i=>(Array.replicate ops.size false).getD i false) 0 us s.O=s.O:=qw us 0 s.O (fun j _=>e0 _)
 have r0:bU ops s.R R' (Array.replicate ops.size false)=s.R:=by
  funext d;unfold bU;rw [if_neg]
  rintro ⟨i,o,_,_,h3⟩
  rw [e0] at h3;cases h3
 refine main ops.size (Array.replicate ops.size false) κ φ w a (by simp) (by simp [List.countP_replicate]) (fun j o _ hj=>by rw [e0] at hj;cases hj) ?_ (Fr.refl _ _) ?_
 ·rw [m0,r0];exact F0
 ·rw [m0];exact nP.refl _ _ _
def GC (P:Program) (f:FuncId) (args:List RV) (O:Tab) (r:RV) (O' : Tab):Prop:=
 ∀(κ:bE) (φ:bP) (w:World) (vs:Array Value),(∀i,OR κ φ O w.heap i (O i))→Bc κ w→vs.size=args.length→
  (∀(i:Nat) (x:RV) (v:Value),args[i]? = some x→vs[i]? = some v→bJ κ φ O w.heap x v)→
  Calls P f vs w fun e w'=>∃v κ' φ',e = .returned v∧bJ κ' φ' O' w'.heap r v∧(∀i,OR κ' φ' O' w'.heap i (O' i))∧Bc κ' w'∧Fr κ w κ' w'∧Kp φ O φ' O'
def mQ (P:Program) (call:mD):Prop:=∀g args O nx r O' nx',call g args O nx=some (r,O',nx')→GC P g args O.fn r O'.fn
theorem dS.Wy {κ κ' : bE} {φ φ' : bP} {O O' : Tab} {w w' : World} (R:Fr κ w κ' w') (K:Kp φ O φ' O'):dS κ φ O w.heap κ' φ' O' w'.heap:=⟨R.dN,R.wQ,K.phi,K.len⟩
theorem sD:∀(u:List (Nat×av)) (O:OT),og u=true→(qB O u).fn=aX O.fn u
 | [],_,_=>rfl
 | (i,p)::r,O,h=>by
   simp only [og] at h;cases hb:Nat.ble i 1048575 with
   | false=>rw [hb] at h;simp at h
   | true=>
     rw [hb] at h;simp only [cond_true] at h;have hi:=Nat.le_of_ble_eq_true hb;simp only [qB];rw [sD r _ h,OT.sj (by omega)];rfl
noncomputable def mR (n:Nat) (R:RT) (O:OT):cu:={ n:=n,R:=R.fn,O:=O.fn,df:=Df.df }
theorem aA.jK {κ:bE} {φ:bP} {w:World} {n:Nat} {R:RT} {O:Tab} {a:Act} (F:aA κ φ w { n:=n,R:=R.fn,O:=O,df:=Df.df } a) {dst:Option Nat} {rv:RV} {v:Value}
 (hd:∀d,dst=some d→d < n∧d < 512) (hr:bJ κ φ O w.heap rv v):aA κ φ w { n:=n,R:=(Am.jK R dst rv).fn,O:=O,df:=Df.df } (a.put dst v):=by
 cases dst with
 | none=>exact F.wU v
 | some d=>
   obtain ⟨h1,h2⟩:=hd d rfl
   have:=F.put (d:=d) h1 hr
   simp only [Am.jK,RT.sj h2];exact this
theorem tQ {R:RT} {dst:Option Nat} {v:RV} (hd:∀d,dst=some d→d < 512):(jK R dst v).fn=iX R.fn dst v:=by
 cases dst with
 | none=>rfl
 | some d=>simp only [jK,RT.sj (hd d rfl)];rfl
theorem Ak {R R' : RT} {O O' : OT} {nx nx' : Nat} {dst:Option Nat} {r:Option (dz×Bool)} (h:yA R O nx dst r=some (R',O',nx')) :
 ∃res un,r=some (res,un)∧(∀c∈res.conds,c=true)∧R'=jK R dst res.val∧O'.fn=aX O.fn res.upd:=by
 unfold yA at h;cases r with
 | none=>simp at h
 | some p=>
   obtain ⟨res,un⟩:=p;obtain ⟨v,u,c⟩:=res;simp only at h;cases hc:allT c with
   | false=>rw [hc] at h;simp at h
   | true=>
     rw [hc] at h;simp only [cond_true] at h;cases u with
     | nil=>
       simp only [Option.some.injEq,Prod.mk.injEq] at h;obtain ⟨rfl,rfl,rfl⟩:=h;exact ⟨_,_,rfl,kY hc,rfl,rfl⟩
     | cons p u=>
       simp only at h;cases hs:og (p::u) with
       | false=>rw [hs] at h;simp at h
       | true=>
         rw [hs] at h;simp only [cond_true,Option.some.injEq,Prod.mk.injEq] at h;obtain ⟨rfl,rfl,rfl⟩:=h;exact ⟨_,_,rfl,kY hc,rfl,sD _ _ hs⟩
theorem Cn {κ:bE} {φ:bP} {w:World} {a:Act} {cf:dX} (hcf:jE P cf) {has:Nat→Bool} {call:mD} (hcall:mQ P call) {ops:Array Oper} {n nx nx' : Nat} {R R' : RT} {O O' : OT} {o:Oper} (F:aA κ φ w (mR n R O) a)
 (h:H6 cf has call ops R O nx o=some (R',O',nx')) {i:Nat} (hi:ops[i]? = some o)
 (hn:∀(j:Nat) (gg:Oper) (t:Nat),ops[j]? = some gg→gg.dst=some t→t < n) (hn2:n≤512) {Q:Exit→Act→World→Prop} {K:Act→World→Prop}
 (hk:∀a' w' κ' φ',aA κ' φ' w' (mR n R' O') a'→Fr κ w κ' w'→Kp φ O.fn φ' O'.fn→K a' w'):wpOp P ops Q i K a w:=by
 have hdst:∀d,o.dst=some d→d < n∧d < 512:=fun d hd=>⟨hn i o d hi hd,Nat.lt_of_lt_of_le (hn i o d hi hd) hn2⟩;unfold H6 at h;unfold wpOp;rw [hi];simp only
 have gen:∀(r:Option (dz×Bool)),yA R O nx o.dst r=some (R',O',nx')→
  (∀res un,r=some (res,un)→(∀c∈res.conds,c=true)→∀(next:Act→World→Prop),
    (∀v w' κ' φ',aA κ' φ' w' { mR n R O with O:=aX O.fn res.upd } a→bJ κ' φ' (aX O.fn res.upd) w'.heap res.val v→Fr κ w κ' w'→Kp φ O.fn φ' (aX O.fn res.upd)→next (a.put o.dst v) w')→o.wp P a w next Q)→o.wp P a w K Q:=by
  intro r hr hw;obtain ⟨res,un,e1,e2,e3,e4⟩:=Ak hr;refine hw res un e1 e2 K (fun v w' κ' φ' g1 g2 g3 g4=>?_);refine hk _ w' κ' φ' ?_ g3 (by rw [e4];exact g4);subst e3;unfold mR;rw [e4];exact aA.jK g1 hdst g2
 split at h
 ·simp at h
 ·rename_i hg;rw [gq (s:=mR n R O) F hg (fun j want gg t _ hj ht=>hn j gg t hj ht)];simp only [Bool.false_eq_true,if_false];simp only [Option.some.injEq,Prod.mk.injEq] at h;obtain ⟨rfl,rfl,rfl⟩:=h;exact hk _ _ κ φ (aA.jK F hdst .und) (Fr.refl _ _) (Kp.refl _ _)
 ·rename_i hg;rw [gq (s:=mR n R O) F hg (fun j want gg t _ hj ht=>hn j gg t hj ht)];simp only [if_true];left;split at h
  ·rename_i x hop;simp only [Option.some.injEq,Prod.mk.injEq] at h;obtain ⟨rfl,rfl,rfl⟩:=h;exact eX (v:=a.eval x) (by simp [execOp,hop]) (hk _ w κ φ (aA.jK F hdst (bA F x)) (Fr.refl _ _) (Kp.refl _ _))
  ·rename_i x hop;simp only [Option.some.injEq,Prod.mk.injEq] at h;obtain ⟨rfl,rfl,rfl⟩:=h;exact eX (v:=a.eval x) (by simp [execOp,hop]) (hk _ w κ φ (aA.jK F hdst (bA F x)) (Fr.refl _ _) (Kp.refl _ _))
  ·rename_i c hop;split at h
   ·rename_i f zl;split at h
    ·rename_i g first caps hrf;cases hok:cf.eH g with
     | false=>rw [hok] at h;simp at h
     | true=>
       rw [hok] at h;simp only [cond_true] at h;have rf:=bA F f;have Zf : aN (mR n R O).R f = .gI (.func g) first caps:=hrf;rw [Zf] at rf;generalize hev:a.eval f=fv at rf;cases rf with
       | gI h1 h2 h3 h4=>
         rename_i fa ca;have hargs:=mg F c.args
         have vX:(execOp a.eval o).run P w = .ok (.enter g (fa++c.args.map a.eval++ca)) w:=by
          simp only [execOp,hop,resolve,zl,hev,Deferred.ofValue,Sem.run_bind,Sem.run_pure,Result.andThen_ok,invoke];exact sU (hcf.call g hok) _ w
         have hsz:(fa++c.args.map a.eval++ca).size=(first++c.args.toList.map (aN R.fn)++caps).length:=by simp;omega
         have hrel:∀(i:Nat) (x:RV) (v:Value),(first++c.args.toList.map (aN R.fn)++caps)[i]? = some x→(fa++c.args.map a.eval++ca)[i]? = some v→bJ κ φ O.fn w.heap x v:=by
          intro i x v hx hv;by_cases k1:i < first.length
          ·rw [List.append_assoc,List.getElem?_append_left k1] at hx;rw [Array.append_assoc,Array.getElem?_append_left (by omega)] at hv;exact h3 i x v hx hv
          ·rw [List.append_assoc,List.getElem?_append_right (by omega)] at hx;rw [Array.append_assoc,Array.getElem?_append_right (by omega)] at hv;by_cases k2:i-first.length < c.args.size
           ·rw [List.getElem?_append_left (by simpa using k2)] at hx;rw [Array.getElem?_append_left (by simp;omega)] at hv;exact hargs _ x v hx (by rw [←h1];exact hv)
           ·rw [List.getElem?_append_right (by simp;omega)] at hx;rw [Array.getElem?_append_right (by simp;omega)] at hv;refine h4 _ x v hx ?_;rw [←hv];congr 1;simp;omega
         split at h
         ·rename_i res hres;refine gen _ h (fun res' un e1 e2 next hnext=>?_);injection e1 with e1;injection e1 with e1 _;subst e1
          have hres' : iA cf.K (cf.dD g) O.fn nx g (first++c.args.toList.map (aN R.fn)++caps)=some res:=by
           cases hh:has g with
           | true=>rw [hh] at hres;exact hres
           | false=>rw [hh] at hres;cases hres
          have FL:=xW (s:=mR n R O) F hcf.K hres' e2 hsz hrel;unfold Oper.wp;rw [vX];refine FL.mono ?_
          rintro e w' ⟨v,κ',φ',rfl,g1,g2,g3,g4⟩
          exact hnext v w' κ' φ' g1 g2 g3 g4
         ·split at h
          ·rename_i v O1 zA hcl;simp only [Option.some.injEq,Prod.mk.injEq] at h;obtain ⟨rfl,rfl,rfl⟩:=h;have hG:=hcall _ _ _ _ _ _ _ hcl κ φ w _ F.objs F.bnd hsz hrel;unfold Oper.wp;rw [vX];refine hG.mono ?_
           rintro e w' ⟨v',κ',φ',rfl,g1,g2,g3,g4,g5⟩
           have M:=dS.Wy g4 g5;have F' : aA κ' φ' w' { n:=n,R:=R.fn,O:=O1.fn,df:=Df.df } a:=⟨fun t=>(F.regs t).mono M,g2,g3,F.n,F.df.mono M⟩;exact hk _ w' κ' φ' (aA.jK F' hdst g1) g4 g5
          ·simp at h
    ·simp at h
   ·exact gen _ h (fun res un e1 e2 next hnext=>DY hcf F e1 e2 hnext)
  ·exact gen _ h (fun res un e1 e2 next hnext=>DY hcf F e1 e2 hnext)
theorem H7 {cf:dX} (hcf:jE P cf) {has:Nat→Bool} {call:mD} (hcall:mQ P call) {ops:Array Oper} {n:Nat} (hn2:n≤512) {Q:Exit→Act→World→Prop}:∀(l:List Oper) (k:Nat) {κ:bE} {φ:bP} {w:World} {a:Act} {R R' : RT} {O O' : OT} {nx nx' : Nat},
 aA κ φ w (mR n R O) a→FW cf has call ops l R O nx=some (R',O',nx')→dF n ops=true→(∀i o,l[i]? = some o→ops[k+i]? = some o)→
 (∀a' w' κ' φ',aA κ' φ' w' (mR n R' O') a'→Fr κ w κ' w'→Kp φ O.fn φ' O'.fn→Q .normal a' w')→wpOps P ops Q (List.range' k l.length) a w
 | [],k,κ,φ,w,a,R,R',O,O',nx,nx',F,h,hg,hl,hk=>by
   simp only [FW,Option.some.injEq,Prod.mk.injEq] at h;obtain ⟨rfl,rfl,rfl⟩:=h;exact hk a w κ φ F (Fr.refl _ _) (Kp.refl _ _)
 | o::r,k,κ,φ,w,a,R,R',O,O',nx,nx',F,h,hg,hl,hk=>by
   simp only [FW] at h;split at h
   ·rename_i R1 O1 zA h1;have hk0:ops[k]? = some o:=by simpa using hl 0 o rfl
    simp only [List.length_cons,List.range'_succ];rw [wpOps_cons];refine Cn hcf hcall F h1 hk0 (dw hg) hn2 (fun a' w' κ' φ' g1 g2 g3=>?_);exact H7 hcf hcall hn2 r (k+1) g1 h hg (fun i o' hi=>by have:=hl (i+1) o' (by simpa using hi);rw [←this];congr 1;omega) (fun a2 w2 κ2 φ2 k1 k2 k3=>hk a2 w2 κ2 φ2 k1 (g2.trans k2) (g3.trans k3))
   ·simp at h
theorem H8 {cf:dX} {ops:Array Oper} {R:Nat→RV} {O:Tab} {o:Oper} {v:RV} {c:List Bool} {e:List (RV×RV)} (h:kG cf ops [] R O o=some (v,c,e)):e=[]:=by
 unfold kG at h;split at h
 ·cases h
 ·injection h with h;injection h with h1 h;injection h with h2 h3;exact h3.symm
 ·split at h
  ·cases h
  ·rename_i res un hex;cases hu:res.upd.isEmpty with
   | false=>rw [hu] at h;simp at h
   | true=>
     rw [hu] at h;simp only [cond_true,uT] at h;split at h<;>(injection h with h;injection h with h1 h;injection h with h2 h3;exact h3.symm)
theorem Ld {cf:dX} {ops:Array Oper} {O:Tab}:∀(l:List Oper) (R R' : RT) (cs:List Bool),(∀o∈l,∀d,o.dst=some d→d < 512)→vQ cf ops O l R=some R'→(∀c∈cs,c=true)→
 ∃cs',tO cf ops [] O l R.fn cs []=some (R'.fn,cs',[])∧∀c∈cs',c=true
 | [],R,R',cs,_,h,hc=>by simp only [vQ,Option.some.injEq] at h;subst h;exact ⟨cs,rfl,hc⟩
 | o::r,R,R',cs,hd,h,hc=>by
   simp only [vQ] at h;cases h1:kG cf ops [] R.fn O o with
   | none=>rw [h1] at h;simp at h
   | some p=>
     obtain ⟨v,c,e⟩:=p;rw [h1] at h;simp only at h;have he:=H8 h1;subst he;cases hcc:allT c with
     | false=>rw [hcc] at h;simp at h
     | true=>
       rw [hcc] at h;simp only [cond_true] at h;simp only [tO,h1];rw [←tQ (hd o (by simp))]
       exact Ld r _ R' (cs++c) (fun o ho=>hd o (by simp [ho])) h (fun x hx=>by
        rcases List.mem_append.1 hx with hx | hx
        ·exact hc x hx
        ·exact kY hcc x hx)
theorem OM {cf:dX} {ops:Array Oper} {R:Nat→RV} {O:Tab} {sl:Nat} {o:Oper} {v:RV} {u:List (Nat×av)} {c:List Bool} {e:List (RV×RV)} (h:qO cf ops [] R O sl o=some (v,u,c,e)):e=[]:=by
 unfold qO at h;split at h
 ·cases h
 ·injection h with h;injection h with h1 h;injection h with h2 h;injection h with h3 h4;exact h4.symm
 ·split at h
  ·cases h
  ·simp only [uT] at h;split at h<;>(injection h with h;injection h with h1 h;injection h with h2 h;injection h with h3 h4;exact h4.symm)
theorem Lf {cf:dX} {ops:Array Oper} {n z:Nat}:∀(l:List Oper) (R R' : RT) (O O' : OT) (rs rs' : List (List Nat×List Nat)) (cs:List Bool),(∀o∈l,∀d,o.dst=some d→d < 512)→
 vE cf ops n z l R O rs=some (R',O',rs')→(∀c∈cs,c=true)→∃cs',rG cf ops [] n z l R.fn O.fn cs [] rs=some (R'.fn,O'.fn,cs',[],rs')∧∀c∈cs',c=true
 | [],R,R',O,O',rs,rs',cs,_,h,hc=>by
   simp only [vE,Option.some.injEq,Prod.mk.injEq] at h;obtain ⟨rfl,rfl,rfl⟩:=h;exact ⟨cs,rfl,hc⟩
 | o::r,R,R',O,O',rs,rs',cs,hd,h,hc=>by
   simp only [vE] at h;cases h1:qO cf ops [] R.fn (nJ (foot R.fn O.fn o) O.fn) (bI n z o) o with
   | none=>rw [h1] at h;simp at h
   | some p=>
     obtain ⟨v,u,c,e⟩:=p;rw [h1] at h;simp only at h;have he:=OM h1;subst he;cases hcc:(allT c&&og u&&lJ O.fn (foot R.fn O.fn o) (bI n z o::(bI n z o+1)::bM u)) with
     | false=>rw [hcc] at h;simp at h
     | true=>
       rw [hcc] at h;simp only [cond_true] at h;simp only [Bool.and_eq_true] at hcc;obtain ⟨⟨c1,c2⟩,c3⟩:=hcc;simp only [rG,h1,c3,cond_true];rw [←tQ (hd o (by simp)),←sD u O c2]
       exact Lf r _ R' _ O' _ rs' (cs++c) (fun o ho=>hd o (by simp [ho])) h (fun x hx=>by
        rcases List.mem_append.1 hx with hx | hx
        ·exact hc x hx
        ·exact kY c1 x hx)
theorem Al:∀(l:List av) (k:Nat) (O:OT),k+l.length≤1048576→(Ai k l O).fn=fun i=>if i < k then O.fn i else if i < k+l.length then l[i-k]? else O.fn i
 | [],k,O,_=>by funext i;simp only [Ai,List.length_nil,Nat.add_zero];split<;>rfl
 | p::r,k,O,h=>by
   simp only [List.length_cons] at h;simp only [Ai];rw [Al r (k+1) _ (by omega),OT.sj (by omega)];funext i;simp only [bF,List.length_cons];by_cases h1:i < k
   ·rw [if_pos (by omega),if_pos h1,if_neg (by omega)]
   ·rw [if_neg h1];by_cases h2:i=k
    ·subst h2;rw [if_pos (by omega),if_pos rfl,if_pos (by omega),Nat.sub_self];rfl
    ·rw [if_neg (by omega),if_neg h2];by_cases h3:i < k+(r.length+1)
     ·rw [if_pos (by omega),if_pos h3,show i-k=(i-(k+1))+1 by omega];rfl
     ·rw [if_neg (by omega),if_neg h3]
theorem Lg (l:List av) (h:l.length≤4000):(Ai 0 l OT.nil).fn=aV l:=by
 rw [Al l 0 _ (by omega),OT.FV];funext i;simp only [Nat.not_lt_zero,if_false,Nat.zero_add,Nat.sub_zero,aV];split
 ·rfl
 ·rw [List.getElem?_eq_none (by omega)]
end Go.Am
namespace Go.Am
set_option linter.unusedSectionVars false
variable {P:Program} [Gl]
theorem OO {f:FuncId} {args:List RV} {objs os:List av} {r r' : RV} {O' : Tab} (hG:GC P f args (aV objs) r O') (uZ:collect objs.length r O'=some (r',os)) :
 C P f args objs (fun r2 o2=>r2=r'∧o2=os):=by
 intro κ φ w vs h1 h2 h3 h4;refine (hG κ φ w vs h1 h2 h3 h4).mono ?_
 rintro e w' ⟨v,κ',φ',rfl,hr,DL,hbd,hfr,K'⟩
 unfold collect at uZ;simp only at uZ;generalize hps:List.range objs.length++(reach O' 400 (r.refs 6++(List.range objs.length).flatMap fun i=>sS (O' i)) []).filter (fun i=>Nat.ble objs.length i)=ps at uZ;cases hnd:nodupB ps with
 | false=>rw [hnd] at uZ;simp at uZ
 | true=>
   rw [hnd] at uZ;simp only [cond_true] at uZ;split at uZ
   ·rename_i r2 os2 hr1 ho1
    ·simp only [Option.some.injEq,Prod.mk.injEq] at uZ;obtain ⟨rfl,rfl⟩:=uZ;obtain ⟨o1,o2⟩:=dW _ ps os2 ho1
     let κ2:bE:=fun b=>match κ' b with
      | .dN=>.dN
      | .own i=>match idx i ps 0 with | some j=>.own j | none=>.kQ
      | .kQ=>.kQ
     let φ2:bP:=fun j=>match ps[j]? with | some i=>φ' i | none=>.un
     have oF:∀(i j:Nat),idx i ps 0=some j→ps[j]? = some i:=fun i j h=>by have:=(kE i ps 0 j h).2;simpa using this
     have oO:∀(i j:Nat),ps[j]? = some i→idx i ps 0=some j:=fun i j h=>by
      obtain ⟨k,hk⟩:=jY i ps 0 (List.mem_iff_getElem?.2 ⟨j,h⟩);rw [hk,jw ps hnd k j i (oF i k hk) h]
     have iV:∀b,κ' b = .dN→κ2 b = .dN:=fun b hb=>by simp only [κ2,hb]
     have hφ2:∀(i j:Nat),idx i ps 0=some j→φ' i≠.un→φ2 j=φ' i:=fun i j h _=>by simp only [φ2,oF i j h]
     have vR:∀(j i:Nat),ps[j]? = some i→∃p q,O' i=some p∧p.ren (fun i=>idx i ps 0)=some q∧os2[j]? = some q:=by
      intro j i h;have hlt:=(List.getElem?_eq_some_iff.1 h).1;have hlt2:j < os2.length:=by omega
      have hq:os2[j]? = some os2[j]:=by simp [hlt2]
      have:=o2 j i _ h hq
      cases e:O' i with
      | none=>simp only [e] at this;cases this
      | some p=>simp only [e] at this;exact ⟨p,_,rfl,this,hq⟩
     have ni:∀(i j n:Nat),idx i ps 0=some j→φ' i≠.un→av.dB (aV os2 j)=some n→av.dB (O' i)=some n:=by
      intro i j n h _ hn;obtain ⟨p,q,e1,e2,e3⟩:=vR j i (oF i j h);rw [e1,←Cc e2];simp only [aV,e3] at hn;exact hn
     have first:∀i,i < objs.length→ps[i]? = some i:=fun i hi=>by
      rw [←hps,List.getElem?_append_left (by simpa using hi)];simp [hi]
     have QH:∀i,φ i≠.un→i < objs.length:=fun i hi=>by
      rcases Nat.lt_or_ge i objs.length with h | h
      ·exact h
      ·exfalso;apply hi
       have:=h1 i
       have e:aV objs i=none:=by simp only [aV];exact List.getElem?_eq_none h
       rw [e] at this;exact this
     refine ⟨v,r2,os2,κ2,φ2,rfl,⟨rfl,rfl⟩,bJ.ren (ρ:=fun i=>idx i ps 0) iV hφ2 ni 6 _ _ _ hr1 hr,fun j=>?_,hbd.same (fun b e=>by simp only [κ2,e]) (fun b e=>by simp only [κ2,e]),?_,
      hfr.trans ⟨Nat.le_refl _,fun b hb=>⟨iV b hb,rfl⟩,fun b _ hb=>⟨by simp only [κ2,hb],rfl⟩,fun _ c _ fz hc=>⟨c,fz,hc,rfl⟩,rfl,rfl⟩,⟨fun i hi=>?_,fun i n hi hn=>?_⟩⟩
     ·cases hj:ps[j]? with
      | none=>
        have:os2[j]? = none:=by rw [List.getElem?_eq_none_iff] at hj ⊢;omega
        simp only [aV,this]
        show φ2 j = .un
        simp only [φ2,hj]
      | some i=>
        obtain ⟨p,q,e1,e2,e3⟩:=vR j i hj;simp only [aV,e3];have ho:=DL i;rw [e1] at ho;exact OR.ren (ρ:=fun i=>idx i ps 0) iV hφ2 ni (oO i j hj) (fun b hb=>by simp only [κ2,hb,oO i j hj]) e2 ho
     ·rw [o1,←hps];simp
     ·simp only [φ2,first i (QH i hi)];exact K'.phi i hi
     ·have hlt:=QH i hi;have h2' : φ' i≠.un:=by rw [K'.phi i hi];exact hi
      exact K'.len i n hi (ni i i n (oO i i (first i hlt)) h2' hn)
   ·simp at uZ
theorem H9 {call:mD} (h:mQ P call):aZ P (Jm call):=by
 intro f args objs r bS c hk _;unfold Jm at hk;cases hb:Nat.ble objs.length 4000 with
 | false=>rw [hb] at hk;simp at hk
 | true=>
   rw [hb] at hk;simp only [cond_true] at hk;split at hk
   ·rename_i r1 O1 zA hcl;split at hk
    ·rename_i r' os uZ;simp only [Option.some.injEq,Prod.mk.injEq] at hk;obtain ⟨rfl,rfl,rfl⟩:=hk;have hG:=h _ _ _ _ _ _ _ hcl;rw [Lg objs (Nat.le_of_ble_eq_true hb)] at hG;exact OO hG uZ
    ·simp at hk
   ·simp at hk
theorem Lh {n:Nat} {ops:Array Oper} (hg:dF n ops=true) (hn:n≤512):∀o∈ops.toList,∀d,o.dst=some d→d < 512:=fun o ho d hd=>by
 obtain ⟨j,hj⟩:=List.mem_iff_getElem?.1 ho;exact Nat.lt_of_lt_of_le (dw hg j o d (by simpa using hj) hd) hn
section
variable [Df]
theorem FY {cf:dX} (hcf:jE P cf) (fG:P.follows .mixedOrders=true) {has:Nat→Bool} {call:mD} (hcall:mQ P call) {n:Nat} (hn:n≤512) {ops:Array Oper} {draw:Bool} {R R' : RT} {O O' : OT} {nx nx' : Nat}
 (h:Ck cf has call n ops draw R O nx=some (R',O',nx')) {id:Nat} {k:List It} {m:Nat} {Q:cu→Prop} (hk:WK P m k (mR n R' O') Q):WK P m (.code (.region id ops draw)::k) (mR n R O) Q:=by
 unfold Ck at h;cases hg:dF n ops with
 | false=>rw [hg] at h;simp at h
 | true=>
   rw [hg] at h;simp only [cond_true] at h;cases draw with
   | false=>
     simp only at h;refine WK.region (s':=mR n R' O') (fun κ φ w a F=>?_) hk
     have:=H7 (Q:=fun e a' w'=>e = .normal∧∃κ' φ',aA κ' φ' w' (mR n R' O') a'∧Fr κ w κ' w'∧nP m φ (mR n R O).O φ' (mR n R' O').O) hcf hcall hn ops.toList 0 F h hg (fun i o hi=>by simpa using hi)
      (fun a' w' κ' φ' g1 g2 g3=>⟨rfl,κ',φ',g1,g2,g3.m m⟩)
     rw [List.range_eq_range'];simpa using this
   | true=>
     simp only at h;cases hq:iP ops with
     | false=>rw [hq] at h;simp at h
     | true=>
       rw [hq] at h;simp only [cond_true] at h;cases ha:ops.toList.all fK with
       | true=>
         rw [ha] at h;simp only [cond_true] at h;split at h
         ·rename_i R1 hr;simp only [Option.some.injEq,Prod.mk.injEq] at h;obtain ⟨rfl,rfl,rfl⟩:=h;obtain ⟨cs,hrun,hcs⟩:=Ld (cf:=cf) ops.toList R R1 [] (Lh hg hn) hr (by simp);refine WK.tq (s':=mR n R1 O) fG (fun κ φ w a F=>?_) hk;have key:=FX (κ0:=κ) (w0:=w) (φ0:=φ) (m:=m) hcf (s:=mR n R O) (R0:=R.fn) hq hg rfl hrun hcs (by simp)
          refine key ops.size (Array.replicate ops.size false) κ φ w a (by simp) (by simp [List.countP_replicate]) (fun j o hj hl=>by
           exfalso;by_cases hi:j < ops.size<;>simp [Array.getD,hi] at hl) ?_ (Fr.refl _ _) (nP.refl _ _ _)
          have:bU ops (mR n R O).R R1.fn (Array.replicate ops.size false)=(mR n R O).R:=by
           funext d;unfold bU;rw [if_neg]
           rintro ⟨i,o,_,_,h3⟩
           by_cases hi:i < ops.size<;>simp [Array.getD,hi] at h3
          rw [this];exact F
         ·simp at h
       | false=>
         rw [ha] at h;simp only [cond_false] at h;split at h
         ·rename_i R1 O1 rs hr;cases hw:pF rs (zx ops.toList []) with
          | false=>rw [hw] at h;simp at h
          | true=>
            rw [hw] at h;simp only [cond_true,Option.some.injEq,Prod.mk.injEq] at h;obtain ⟨rfl,rfl,rfl⟩:=h;obtain ⟨cs,hrun,hcs⟩:=Lf ops.toList R R1 O O1 [] rs [] (Lh hg hn) hr (by simp);refine WK.tq (s':=mR n R1 O1) fG (fun κ φ w a F=>?_) hk;have Zg : jE P { cf with K:=Wx cf.K (Jm call),dD:=fun _=>true,diff:=true }:=⟨hcf.E,Lb hcf.K (H9 hcall),hcf.call⟩;exact Lc (s:=mR n R O) (R0:=R.fn) (O0:=O.fn) Zg hq hg rfl rfl hrun hw hcs (by simp) F
         ·simp at h
end
theorem En:∀(l:List RV) (k:Nat) (R:RT),k+l.length≤512→(Aj k l R).fn=fun t=>if t < k then R.fn t else if t < k+l.length then (l[t-k]?).getD .bot else R.fn t
 | [],k,R,_=>by funext t;simp only [Aj,List.length_nil,Nat.add_zero];split<;>rfl
 | v::r,k,R,h=>by
   simp only [List.length_cons] at h;simp only [Aj];rw [En r (k+1) _ (by omega),RT.sj (by omega)];funext t;simp only [jh,List.length_cons];by_cases h1:t < k
   ·rw [if_pos (by omega),if_pos h1,if_neg (by omega)]
   ·rw [if_neg h1];by_cases h2:t=k
    ·subst h2;rw [if_pos (by omega),if_pos rfl,if_pos (by omega),Nat.sub_self];rfl
    ·rw [if_neg (by omega),if_neg h2];by_cases h3:t < k+(r.length+1)
     ·rw [if_pos (by omega),if_pos h3,show t-k=(t-(k+1))+1 by omega];rfl
     ·rw [if_neg (by omega),if_neg h3]
theorem OT.RA {O:OT} {i:Nat} (h:1048576≤i):O.fn i=none:=by
 unfold OT.fn;rw [Nat.ble_eq_true_of_le h];rfl
end Go.Am
namespace Go.Am
set_option linter.unusedSectionVars false
variable {P:Program} [Gl] [Df]
def Li (an:List Nat) (n j:Nat):Bool:=(List.range n).all fun i=>bif Nat.ble (i+1) j then KU (an.getD j 0) i else Nat.beq i j||KU (an.getD i 0) j
def Co (ops:Array Oper):Bool:=let an:=zx ops.toList [];ops.toList.zipIdx.all fun (o,j)=>fK o||Li an ops.size j
theorem pI {ops:Array Oper} (h:Co ops=true) {j:Nat} {o:Oper} (hj:ops[j]? = some o) (hq:fK o=false) :
 (∀i,i < j→Before ops i j)∧(∀i,i < ops.size→j < i→Before ops j i):=by
 have hm:(o,j)∈ops.toList.zipIdx:=by
  rw [List.mem_zipIdx_iff_getElem?];simpa using hj
 have h1:=List.all_eq_true.1 h _ hm;simp only [hq,Bool.false_or,Li,List.all_eq_true,List.mem_range] at h1;have hsz:=(Array.getElem?_eq_some_iff.1 hj).1;have an:=qx (ops:=ops) ops.toList [] (fun i o hi=>by simpa using hi) (fun i k h=>by simp at h);constructor
 ·intro i hi
  have:=h1 i (by omega)
  rw [Nat.ble_eq_true_of_le (by omega)] at this;simp only [cond_true,BX] at this;exact an j i this
 ·intro i hi hij
  have:=h1 i hi
  rw [show Nat.ble (i+1) j=false from by cases hb:Nat.ble (i+1) j;rfl;exact absurd (Nat.le_of_ble_eq_true hb) (by omega)] at this
  simp only [cond_false,BX,Bool.or_eq_true] at this;rcases this with h | h
  ·exact absurd (cB h) (by omega)
  ·exact an i j h
structure Cq (P:Program) (cf:dX) (has:Nat→Bool) (ops:Array Oper) (l:List Oper) (k:Nat) (Rs:Nat→RT) (Os:Nat→OT) (ns:Nat→Nat):Prop where
 at_:∀j o,l[j]? = some o→
  (fK o=true∧Os (k+j+1)=Os (k+j)∧∃v c,kG cf ops [] (Rs (k+j)).fn (Os (k+j)).fn o=some (v,c,[])∧(∀x∈c,x=true)∧Rs (k+j+1)=jK (Rs (k+j)) o.dst v)∨
  (fK o=false∧∃vc,mQ P vc∧H6 cf has vc ops (Rs (k+j)) (Os (k+j)) (ns (k+j)) o=some (Rs (k+j+1),Os (k+j+1),ns (k+j+1)))
theorem OP {cf:dX} {has:Nat→Bool} {vc:mD} {ops:Array Oper} {R R' : RT} {O O' : OT} {nx nx' : Nat} {o:Oper} (h:H6 cf has vc ops R O nx o=some (R',O',nx')):∃v,R'=jK R o.dst v:=by
 unfold H6 at h;split at h
 ·cases h
 ·simp only [Option.some.injEq,Prod.mk.injEq] at h;exact ⟨_,h.1.symm⟩
 ·have gen:∀r,yA R O nx o.dst r=some (R',O',nx')→∃v,R'=jK R o.dst v:=fun r hr=>by
   obtain ⟨res,un,_,_,e3,_⟩:=Ak hr;exact ⟨_,e3⟩
  split at h
  ·simp only [Option.some.injEq,Prod.mk.injEq] at h;exact ⟨_,h.1.symm⟩
  ·simp only [Option.some.injEq,Prod.mk.injEq] at h;exact ⟨_,h.1.symm⟩
  ·split at h
   ·split at h
    ·rename_i g _ _ _;cases hk:cf.eH g with
     | false=>rw [hk] at h;cases h
     | true=>
       rw [hk] at h;simp only [cond_true] at h;split at h
       ·exact gen _ h
       ·split at h
        ·simp only [Option.some.injEq,Prod.mk.injEq] at h;exact ⟨_,h.1.symm⟩
        ·cases h
    ·cases h
   ·exact gen _ h
  ·exact gen _ h
theorem Lj {ops:Array Oper} {R0 R' : Nat→RV} {L:Array Bool} {j:Nat} {o:Oper} {v:RV} (ho:ops[j]? = some o) (hL:L.size=ops.size) (hv:∀d,o.dst=some d→R' d=v) :
 iX (bU ops R0 R' L) o.dst v=bU ops R0 R' (L.setIfInBounds j true):=by
 have hjn:=(Array.getElem?_eq_some_iff.1 ho).1;funext d
 have hget:∀i,(L.setIfInBounds j true).getD i false=if i=j then true else L.getD i false:=by
  intro i;simp only [Array.getD_eq_getD_getElem?,Array.getElem?_setIfInBounds];by_cases e:i=j
  ·subst e;have:i < L.size:=by omega
   simp [this]
  ·have:¬j=i:=fun h=>e h.symm
   simp [e,this]
 cases hd:o.dst with
 | none=>
   simp only [iX];unfold bU;congr 1;apply propext;constructor
   ·rintro ⟨i,p,h1,h2,h3⟩
    exact ⟨i,p,h1,h2,by rw [hget];split;rfl;exact h3⟩
   ·rintro ⟨i,p,h1,h2,h3⟩
    rw [hget] at h3;by_cases e:i=j
    ·subst e;rw [ho] at h1;injection h1 with h1;subst h1;rw [hd] at h2;cases h2
    ·rw [if_neg e] at h3;exact ⟨i,p,h1,h2,h3⟩
 | some d0=>
   simp only [iX,jh];by_cases e0:d=d0
   ·subst e0;rw [if_pos rfl];unfold bU;rw [if_pos ⟨j,o,ho,hd,by rw [hget];simp⟩,hv d hd]
   ·rw [if_neg e0];unfold bU;congr 1;apply propext;constructor
    ·rintro ⟨i,p,h1,h2,h3⟩
     exact ⟨i,p,h1,h2,by rw [hget];split;rfl;exact h3⟩
    ·rintro ⟨i,p,h1,h2,h3⟩
     rw [hget] at h3;by_cases e:i=j
     ·subst e;rw [ho] at h1;injection h1 with h1;subst h1;rw [hd] at h2;injection h2 with h2;exact absurd h2.symm e0
     ·rw [if_neg e] at h3;exact ⟨i,p,h1,h2,h3⟩
theorem Ll {cf:dX} (hcf:jE P cf) {has:Nat→Bool} {ops:Array Oper} {n:Nat} (hn:n≤512) (hq:iP ops=true) (hg:dF n ops=true) (hl:Co ops=true)
 {Rs:Nat→RT} {Os:Nat→OT} {ns:Nat→Nat} (hrun:Cq P cf has ops ops.toList 0 Rs Os ns) {m:Nat} {κ0:bE} {w0:World} {φ0:bP} :
 ∀(fuel:Nat) (L:Array Bool) (c:Nat) (κ:bE) (φ:bP) (w:World) (a:Act),L.size=ops.size→L.toList.countP (· == false)=fuel→
  (∀(j:Nat) (o:Oper),ops[j]? = some o→L.getD j false=true→∀e∈o.after,Region.binds .any e=true→L.getD e.on false=true)→
  (∀(p:Nat) (o:Oper),ops[p]? = some o→fK o=false→(L.getD p false=true↔p < c))→c≤ops.size→
  aA κ φ w { n:=n,R:=bU ops (Rs 0).fn (Rs ops.size).fn L,O:=(Os c).fn,df:=Df.df } a→Fr κ0 w0 κ w→nP m φ0 (Os 0).fn φ (Os c).fn→
  wpAny P .any ops (fun e a' w'=>e = .normal∧∃κ' φ',aA κ' φ' w' (mR n (Rs ops.size) (Os ops.size)) a'∧Fr κ0 w0 κ' w'∧nP m φ0 (Os 0).fn φ' (Os ops.size).fn) fuel L a w:=by
 have hdst:∀(j:Nat) (o:Oper) (d:Nat),ops[j]? = some o→o.dst=some d→d < n∧d < 512:=fun j o d hj hd=>⟨dw hg j o d hj hd,Nat.lt_of_lt_of_le (dw hg j o d hj hd) hn⟩
 have hnd:∀(i j:Nat) (p q:Oper) (d:Nat),ops[i]? = some p→ops[j]? = some q→p.dst=some d→q.dst=some d→i=j:=by
  intro i j p q d hi hj hp qN;rcases ((dh hq (j:=j) (o:=q) hj).2 i p d hi hp).1 with h | h
  ·exact h
  ·exact absurd qN h
 have hstep:∀(j:Nat) (o:Oper),ops[j]? = some o→∃v,(Rs (j+1)).fn=iX (Rs j).fn o.dst v:=by
  intro j o hj;rcases hrun.at_ j o (by simpa using hj) with ⟨_,_,v,c,_,_,h⟩ | ⟨_,vc,_,h⟩
  ·simp only [Nat.zero_add] at h;exact ⟨v,by rw [h,tQ (fun d hd=>(hdst j o d hj hd).2)]⟩
  ·simp only [Nat.zero_add] at h;obtain ⟨v,hv⟩:=OP h;exact ⟨v,by rw [hv,tQ (fun d hd=>(hdst j o d hj hd).2)]⟩
 have keep:∀(k i d:Nat),i+k≤ops.size→(∀(j:Nat) (o:Oper),i≤j→j < i+k→ops[j]? = some o→o.dst≠some d)→(Rs (i+k)).fn d=(Rs i).fn d:=by
  intro k;induction k with
  | zero=>intro i d _ _;rfl
  | succ k ih=>
    intro i d hk hh;have hlt:i+k < ops.size:=by omega
    obtain ⟨v,hv⟩:=hstep (i+k) ops[i+k] (by simp [hlt]);rw [show i+(k+1)=i+k+1 by omega,hv,tN (hh (i+k) _ (by omega) (by omega) (by simp [hlt]))];exact ih i d (by omega) (fun j o h1 h2 h3=>hh j o h1 (by omega) h3)
 have after:∀(j i d:Nat) (o:Oper),i < j→j≤ops.size→ops[i]? = some o→o.dst=some d→(Rs j).fn d=(Rs ops.size).fn d:=by
  intro j i d o hij hj ho hd
  have:=keep (ops.size-j) j d (by omega) (fun j' o' h1 _ h3 h4=>by have:=hnd i j' o o' d ho h3 hd h4;omega)
  rw [show j+(ops.size-j)=ops.size by omega] at this;exact this.symm
 have before:∀(j d:Nat),j≤ops.size→(∀(i:Nat) (o:Oper),i < j→ops[i]? = some o→o.dst≠some d)→(Rs j).fn d=(Rs 0).fn d:=by
  intro j d hj hh
  have:=keep j 0 d (by omega) (fun i o _ h2 h3=>hh i o (by omega) h3)
  simpa using this
 have still:∀(k i:Nat),i+k≤ops.size→(∀(j:Nat) (o:Oper),i≤j→j < i+k→ops[j]? = some o→fK o=true)→Os (i+k)=Os i:=by
  intro k;induction k with
  | zero=>intro i _ _;rfl
  | succ k ih=>
    intro i hk hh;have hlt:i+k < ops.size:=by omega
    have hqk:=hh (i+k) _ (by omega) (by omega) (by simp [hlt]:ops[i+k]? = some ops[i+k]);rcases hrun.at_ (i+k) ops[i+k] (by simp [hlt]) with ⟨_,h,_⟩ | ⟨h,_⟩
    ·simp only [Nat.zero_add] at h;rw [show i+(k+1)=i+k+1 by omega,h];exact ih i (by omega) (fun j o h1 h2 h3=>hh j o h1 (by omega) h3)
    ·rw [hqk] at h;cases h
 have FZ:∀(i j:Nat),i≤ops.size→j≤ops.size→(∀(p:Nat) (o:Oper),ops[p]? = some o→fK o=false→(p < i↔p < j))→Os i=Os j:=by
  intro i j hi hj hh;rcases Nat.le_total i j with h | h
  ·have:=still (j-i) i (by omega) (fun p o h1 h2 h3=>by
    cases hqo:fK o with
    | true=>rfl
    | false=>have:=(hh p o h3 hqo).2 (by omega);omega)
   rw [show i+(j-i)=j by omega] at this;exact this.symm
  ·have:=still (i-j) j (by omega) (fun p o h1 h2 h3=>by
    cases hqo:fK o with
    | true=>rfl
    | false=>have:=(hh p o h3 hqo).1 (by omega);omega)
   rw [show j+(i-j)=i by omega] at this;exact this
 have prefix_:∀(L:Array Bool) (j:Nat),j≤ops.size→(∀i,i < ops.size→(L.getD i false=true↔i < j))→bU ops (Rs 0).fn (Rs ops.size).fn L=(Rs j).fn:=by
  intro L j hj hall;funext d;unfold bU;split
  ·rename_i hex;obtain ⟨i,o,h1,h2,h3⟩:=hex;have hi:=(Array.getElem?_eq_some_iff.1 h1).1;exact (after j i d o ((hall i hi).1 h3) hj h1 h2).symm
  ·rename_i hne;exact (before j d hj (fun i o hi h1 h2=>hne ⟨i,o,h1,h2,(hall i (Array.getElem?_eq_some_iff.1 h1).1).2 hi⟩)).symm
 have fin:∀(L:Array Bool) (c:Nat) (κ:bE) (φ:bP) (w:World) (a:Act),(∀i,i < ops.size→L.getD i false=true)→
  (∀(p:Nat) (o:Oper),ops[p]? = some o→fK o=false→(L.getD p false=true↔p < c))→c≤ops.size→
  aA κ φ w { n:=n,R:=bU ops (Rs 0).fn (Rs ops.size).fn L,O:=(Os c).fn,df:=Df.df } a→nP m φ0 (Os 0).fn φ (Os c).fn→
  aA κ φ w (mR n (Rs ops.size) (Os ops.size)) a∧nP m φ0 (Os 0).fn φ (Os ops.size).fn:=by
  intro L c κ φ w a hall hc hcs F hK
  have e:Os c=Os ops.size:=FZ c ops.size hcs (Nat.le_refl _) (fun p o hp hqo=>by
   have hps:=(Array.getElem?_eq_some_iff.1 hp).1;exact ⟨fun _=>hps,fun _=>(hc p o hp hqo).1 (hall p hps)⟩)
  rw [prefix_ L ops.size (Nat.le_refl _) (fun i hi=>⟨fun _=>hi,fun _=>hall i hi⟩),e] at F;rw [e] at hK;exact ⟨F,hK⟩
 have Lm:∀(L:Array Bool) (i:Nat),i < L.size→L.getD i true=L.getD i false:=fun L i hi=>by simp [Array.getD,hi]
 intro fuel;induction fuel with
 | zero=>
   intro L c κ φ w a hL hcnt hcl hc hcs F hR hK;have hall:=lH hcnt;obtain ⟨F',hK'⟩:=fin L c κ φ w a (fun i hi=>by rw [←Lm L i (by omega)];exact hall i (by omega)) hc hcs F hK;refine ⟨?_,rfl,κ,φ,F',hR,hK'⟩;cases hr:Region.ready .any ops L with
   | nil=>rfl
   | cons i r=>
     obtain ⟨o,_,h1,h2,_⟩:=mem_ready (md:=.any) (ops:=ops) (L:=L) (i:=i) (by rw [hr];simp);rw [hall i (by omega)] at h2;cases h2
 | succ fuel ih=>
   intro L c κ φ w a hL hcnt hcl hc hcs F hR hK;refine ⟨fun hr=>?_,fun j hj=>?_⟩
   ·have hall:=ready_nil hL (fun j o ho=>(dh hq ho).1) hr;obtain ⟨F',hK'⟩:=fin L c κ φ w a (fun i hi=>by rw [←Lm L i (by omega)];exact hall i hi) hc hcs F hK;exact ⟨rfl,κ,φ,F',hR,hK'⟩
   ·obtain ⟨o,ho,hjn,hlj,iK⟩:=mem_ready hj;have oZ:L.getD j false=false:=by rw [←Lm L j (by omega)];exact hlj
    obtain ⟨s1,s2⟩:=dh hq ho;have anc:∀p,Before ops p j→L.getD p false=true:=fun p hp=>hp.ready (L:=fun i=>L.getD i false) hcl (fun o' ho' e he hb=>by rw [ho] at ho';injection ho' with ho';subst ho';exact iK e he hb)
    have desc:∀p,Before ops j p→L.getD p false=false:=fun p hp=>by
     cases hx:L.getD p false with
     | false=>rfl
     | true=>have:=hp.done (L:=fun i=>L.getD i false) hcl hx;simp only [oZ] at this;cases this
    have hget:∀i,(L.setIfInBounds j true).getD i false=if i=j then true else L.getD i false:=by
     intro i;simp only [Array.getD_eq_getD_getElem?,Array.getElem?_setIfInBounds];by_cases e:i=j
     ·subst e;have:i < L.size:=by omega
      simp [this]
     ·have:¬j=i:=fun h=>e h.symm
      simp [e,this]
    have hcl' : ∀(j' : Nat) (o' : Oper),ops[j']? = some o'→(L.setIfInBounds j true).getD j' false=true→∀e∈o'.after,Region.binds .any e=true→(L.setIfInBounds j true).getD e.on false=true:=by
     intro j' o' ho' hl' e he' hb';rw [hget] at hl' ⊢;split
     ·rfl
     ·by_cases ej:j'=j
      ·subst ej;rw [ho] at ho';injection ho' with ho';subst ho';exact iK e he' hb'
      ·rw [if_neg ej] at hl';exact hcl j' o' ho' hl' e he' hb'
    have hcount:=count_set (L:=L) (i:=j) (by omega) hlj;cases hqo:fK o with
    | true=>
      have eO:Os c=Os j:=FZ c j hcs (by omega) (fun p q hp hqq=>by
       have hps:=(Array.getElem?_eq_some_iff.1 hp).1;rcases Nat.lt_trichotomy p j with h | h | h
       ·have:=(hc p q hp hqq).1 (anc p ((pI hl hp hqq).2 j hjn h));omega
       ·subst h;rw [ho] at hp;injection hp with hp;subst hp;rw [hqo] at hqq;cases hqq
       ·have h1:=desc p ((pI hl hp hqq).1 j h);have h2:=hc p q hp hqq;rw [h1] at h2;constructor
        ·intro h3;have:=h2.2 h3;cases this
        ·intro h3;omega)
      rcases hrun.at_ j o (by simpa using ho) with ⟨_,hOO,v,cc,KT,hcc,hRR⟩ | ⟨h,_⟩
      ·simp only [Nat.zero_add] at hOO KT hRR;have hRf:(Rs (j+1)).fn=iX (Rs j).fn o.dst v:=by rw [hRR,tQ (fun d hd=>(hdst j o d ho hd).2)]
       have k4:∀d,o.dst=some d→(Rs ops.size).fn d=v:=fun d hd=>by
        rw [←after (j+1) j d o (by omega) (by omega) ho hd,hRf];exact Cm hd
       have same:∀d,d∈looks o ops→bU ops (Rs 0).fn (Rs ops.size).fn L d=(Rs j).fn d:=by
        intro d hd;by_cases hw:∃(i:Nat) (p:Oper),ops[i]? = some p∧p.dst=some d
        ·obtain ⟨i,p,hi,hp⟩:=hw;rcases (s2 i p d hi hp).2 hd with ⟨hij,ed,he1,he2,xY⟩ | ⟨hij,ed,he1,he2,xY⟩
         ·have OG:L.getD i false=true:=by rw [←he2];exact iK ed he1 xY
          unfold bU;rw [if_pos ⟨i,p,hi,hp,OG⟩];exact (after j i d p hij (by omega) hi hp).symm
         ·unfold bU
          rw [if_neg (fun ⟨i',p',h1,h2,h3⟩=>by
           have e:=hnd i' i p' p d h1 hi h2 hp;subst e;rw [h1] at hi;injection hi with hi;subst hi
           have:=hcl i' p' h1 h3 ed he1 xY
           rw [he2,oZ] at this;cases this)]
          exact (before j d (by omega) (fun i' p' h0 h1 h2=>by have:=hnd i' i p' p d h1 hi h2 hp;omega)).symm
        ·unfold bU;rw [if_neg (fun ⟨i,p,hi,hp,_⟩=>hw ⟨i,p,hi,hp⟩)];exact (before j d (by omega) (fun i p _ hp wI=>hw ⟨i,p,hp,wI⟩)).symm
       have Zh : kG cf ops [] (bU ops (Rs 0).fn (Rs ops.size).fn L) (Os c).fn o=some (v,cc,[]):=by
        rw [←KT,eO]
        have h1:guardOf (bU ops (Rs 0).fn (Rs ops.size).fn L) ops o=guardOf (Rs j).fn ops o:=by
         unfold guardOf;cases hgu:o.guard with
         | none=>rfl
         | some p=>
           obtain ⟨g,want⟩:=p;simp only;cases hog:ops[g]? with
           | none=>rfl
           | some gg=>
             simp only;cases hgd:gg.dst with
             | none=>rfl
             | some d=>
               simp only;rw [same d (by simp only [looks,List.mem_append];right;rw [hgu];simp only [hog,hgd];simp)]
        have h2:mK cf (bU ops (Rs 0).fn (Rs ops.size).fn L) (Os j).fn 0 o=mK cf (Rs j).fn (Os j).fn 0 o:=nW fun x hx=>lG fun d hd=>by
         subst hd;refine same d ?_;simp only [looks,List.mem_append,List.mem_filterMap];left;exact ⟨.tmp d,by simpa using hx,rfl⟩
        unfold kG;rw [h1,h2]
       refine BJ hcf F Zh hcc (by simp) ho (dw hg) (fun a' w' κ' φ' g1 g2 g3=>?_);have g1' : aA κ' φ' w' { n:=n,R:=bU ops (Rs 0).fn (Rs ops.size).fn (L.setIfInBounds j true),O:=(Os c).fn,df:=Df.df } a':=by rw [←Lj ho hL k4];exact g1
       refine ih (L.setIfInBounds j true) c κ' φ' w' a' (by simpa using hL) (by omega) hcl' (fun p q hp hqq=>?_) hcs g1' (hR.trans g2) (hK.trans (g3.m m));rw [hget];by_cases e:p=j
       ·subst e;rw [ho] at hp;injection hp with hp;subst hp;rw [hqo] at hqq;cases hqq
       ·rw [if_neg e];exact hc p q hp hqq
      ·rw [hqo] at h;cases h
    | false=>
      obtain ⟨l1,l2⟩:=pI hl ho hqo
      have hall:∀i,i < ops.size→(L.getD i false=true↔i < j):=by
       intro i hi;rcases Nat.lt_trichotomy i j with h | h | h
       ·exact ⟨fun _=>h,fun _=>anc i (l1 i h)⟩
       ·subst h;rw [oZ];exact ⟨fun h=>(by cases h),fun h=>absurd h (Nat.lt_irrefl _)⟩
       ·have:=desc i (l2 i hi h);rw [this];exact ⟨fun h=>(by cases h),fun h2=>by omega⟩
      have eO:Os c=Os j:=FZ c j hcs (by omega) (fun p q hp hqq=>by
       have hps:=(Array.getElem?_eq_some_iff.1 hp).1;rw [←hc p q hp hqq,hall p hps])
      rw [prefix_ L j (by omega) hall,eO] at F;rw [eO] at hK;rcases hrun.at_ j o (by simpa using ho) with ⟨h,_⟩ | ⟨_,vc,hvc,hv⟩
      ·rw [hqo] at h;cases h
      ·simp only [Nat.zero_add] at hv;refine Cn hcf hvc F hv ho (dw hg) hn (fun a' w' κ' φ' g1 g2 g3=>?_)
       have QI : ∀i,i < ops.size→((L.setIfInBounds j true).getD i false=true↔i < j+1):=by
        intro i hi;rw [hget];by_cases e:i=j
        ·subst e;simp
        ·rw [if_neg e,hall i hi];omega
       have g1' : aA κ' φ' w' { n:=n,R:=bU ops (Rs 0).fn (Rs ops.size).fn (L.setIfInBounds j true),O:=(Os (j+1)).fn,df:=Df.df } a':=by
        rw [prefix_ _ (j+1) (by omega) QI];exact g1
       exact ih (L.setIfInBounds j true) (j+1) κ' φ' w' a' (by simpa using hL) (by omega) hcl' (fun p q hp hqq=>QI p (Array.getElem?_eq_some_iff.1 hp).1) (by omega) g1' (hR.trans g2) (hK.trans (g3.m m))
end Go.Am
namespace Go.Am
set_option linter.unusedSectionVars false
variable {P:Program} [Gl]
abbrev nM:=Option (RV×OT×Nat)
abbrev VK:=RT→OT→Nat→nM
abbrev Ins:=RT→OT→Nat→VK→nM
abbrev RK:=RV→OT→Nat→nM
abbrev fI:=Nat→List RV→OT→Nat→RK→nM
noncomputable def Wz (x:Operand):RT→RV:=
 Operand.rec (motive:=fun _=>RT→RV) (fun t R=>R.fn t) (fun v _=>match DV.qR v with | some x=>.d x | none=>.bot) (fun _ _=>.bot) (fun f _=>.gI (.func f) [] []) x
theorem F6 (x:Operand) (R:RT):Wz x R=aN R.fn x:=by cases x<;>rfl
noncomputable def Jo (dst:Option Nat):RV→RT→RT:=
 Option.rec (motive:=fun _=>RV→RT→RT) (fun _ R=>R) (fun d v R=>R.put d v) dst
theorem qC (dst:Option Nat) (v:RV) (R:RT):Jo dst v R=jK R dst v:=by cases dst<;>rfl
noncomputable def Cr (n:Nat) (k:Nat→nM):nM:=Nat.rec (motive:=fun _=>nM) (k 0) (fun m _=>k (Nat.succ m)) n
theorem Ao (n:Nat) (k:Nat→nM):Cr n k=k n:=by cases n<;>rfl
noncomputable def WA (u:List (Nat×av)):OT→Nat→(OT→Nat→nM)→nM:=
 List.rec (motive:=fun _=>OT→Nat→(OT→Nat→nM)→nM) (fun O nx k=>k O nx)
  (fun h t _ O nx k=>Bool.rec (motive:=fun _=>nM) none (Cr (QG nx (h::t)) (k (qB O (h::t)))) (og (h::t))) u
noncomputable def OQ (dst:Option Nat) (r:Option (dz×Bool)):Ins:=
 Option.rec (motive:=fun _=>Ins) (fun _ _ _ _=>none)
  (fun p=>Prod.rec (motive:=fun _=>Ins) (fun res _=>dz.rec (motive:=fun _=>Ins)
    (fun v u c R O nx k=>Bool.rec (motive:=fun _=>nM) none (WA u O nx (k (Jo dst v R))) (allT c)) res) p) r
theorem Ap {dst:Option Nat} {r:Option (dz×Bool)} {R:RT} {O:OT} {nx:Nat} {k:VK} {a} (h:OQ dst r R O nx k=some a) :
 ∃R' O' nx',yA R O nx dst r=some (R',O',nx')∧k R' O' nx'=some a:=by
 cases r with
 | none=>cases h
 | some p=>
   obtain ⟨⟨v,u,c⟩,b⟩:=p;unfold OQ at h;simp only at h;unfold yA;cases hc:allT c with
   | false=>rw [hc] at h;cases h
   | true=>
     rw [hc] at h;simp only [hc,cond_true];cases u with
     | nil=>exact ⟨_,_,_,rfl,by rw [←qC];exact h⟩
     | cons x t=>
       unfold WA at h;simp only at h;cases hs:og (x::t) with
       | false=>rw [hs] at h;cases h
       | true=>
         rw [hs] at h;simp only [Ao] at h;simp only [cond_true];exact ⟨_,_,_,rfl,by rw [←qC];exact h⟩
noncomputable def Ia (x:Operand) (_:dX) (_:Nat→Bool) (_:fI) (o:Oper):Ins:=fun R O nx k=>k (Jo o.dst (Wz x R) R) O nx
noncomputable def gG (cf:dX) (_:Nat→Bool) (_:fI) (o:Oper):Ins:=fun R O nx k=>OQ o.dst (mK cf R.fn O.fn nx o) R O nx k
noncomputable def WB (cf:dX) (has:Nat→Bool) (call:fI) (g:Nat) (dst:Option Nat) (args:List RV):Ins:=fun R O nx k=>
 Bool.rec (motive:=fun _=>nM) none
  (Option.rec (motive:=fun _=>nM) (call g args O nx (fun v O' nx'=>k (Jo dst v R) O' nx')) (fun res=>OQ dst (some (res,false)) R O nx k)
    (bif has g then iA cf.K (cf.dD g) O.fn nx g args else none)) (cf.eH g)
noncomputable def Ct (cf:dX) (has:Nat→Bool) (call:fI) (dst:Option Nat) (args:RT→List RV) (f:RV):Ins:=
 match f with
 | .gI (.func g) first caps=>fun R O nx k=>WB cf has call g dst (first++args R++caps) R O nx k
 | _=>fun _ _ _ _=>none
noncomputable def Aq (l:List Operand):RT→List RV:=
 List.rec (motive:=fun _=>RT→List RV) (fun _=>[]) (fun x _ ih R=>Wz x R::ih R) l
theorem yB (R:RT):∀l:List Operand,Aq l R=l.map (aN R.fn)
 | []=>rfl
 | x::r=>by
   have:=yB R r
   unfold Aq at this ⊢;simp only [List.map_cons,←this,←F6]
noncomputable def Cu (c:Call) (cf:dX) (has:Nat→Bool) (call:fI) (o:Oper):Ins:=
 Callee.rec (motive:=fun _=>Ins)
  (fun f=>Operand.rec (motive:=fun _=>Ins) (fun t R O nx k=>Ct cf has call o.dst (Aq c.args.toList) (R.fn t) R O nx k) (fun _ _ _ _ _=>none) (fun _ _ _ _ _=>none)
    (fun g R O nx k=>WB cf has call g o.dst (Aq c.args.toList R) R O nx k) f)
  (fun _ _=>gG cf has call o) (fun _=>gG cf has call o) c.callee
noncomputable def fBody (op:Op):dX→(Nat→Bool)→fI→Oper→Ins:=
 Op.rec (motive:=fun _=>dX→(Nat→Bool)→fI→Oper→Ins) Ia Ia (fun _ _ _=>gG) (fun _=>gG) (fun _ _=>gG) (fun _ _=>gG) (fun _ _ _=>gG) (fun _ _ _ _=>gG) (fun _ _=>gG)
  (fun _ _ _=>gG) (fun _=>gG) (fun _=>gG) (fun _=>gG) (fun _ _ _ _ _=>gG) (fun _ _ _=>gG) (fun _ _ _=>gG) (fun _ _=>gG) (fun _ _=>gG) (fun _ _ _=>gG) (fun _ _=>gG)
  (fun _ _=>gG) (fun _ _ _=>gG) (fun _ _ _ _ _=>gG) (fun _ _ _=>gG) (fun _ _ _=>gG) (fun _ _ _=>gG) (fun _ _ _=>gG) (fun _ _ _ _=>gG) (fun _ _ _ _=>gG) (fun _ _ _=>gG)
  (fun _ _ _ _=>gG) (fun _ _=>gG) (fun _ _=>gG) (fun _=>gG) (fun _ _ _ _=>gG) (fun _ _=>gG) Cu (fun _=>gG) (fun _=>gG) (fun _=>gG) (fun _ _=>gG) (fun _ _ _=>gG) (fun _ _=>gG) op
noncomputable def RB (cf:dX) (has:Nat→Bool) (call:fI) (ops:Array Oper) (o:Oper):Ins:=
 Option.rec (motive:=fun _=>Ins) (fBody o.op cf has call o)
  (fun _ R O nx k=>Option.rec (motive:=fun _=>nM) none
    (fun b=>Bool.rec (motive:=fun _=>nM) (k (Jo o.dst .und R) O nx) (fBody o.op cf has call o R O nx k) b) (guardOf R.fn ops o)) o.guard
noncomputable def F7 (cf:dX) (has:Nat→Bool) (call:fI) (ops:Array Oper) (l:List Oper):Ins:=
 List.rec (motive:=fun _=>Ins) (fun R O nx k=>k R O nx) (fun o _ ih R O nx k=>RB cf has call ops o R O nx (fun R O nx=>ih R O nx k)) l
def Cv (call:fI):mD:=fun g args O nx=>call g args O nx (fun r O nx=>some (r,O,nx))
noncomputable def stK (r:Option VN) (k:VK):nM:=
 Option.rec (motive:=fun _=>nM) none (fun p=>Prod.rec (motive:=fun _=>nM) (fun R q=>Prod.rec (motive:=fun _=>nM) (fun O nx=>Cr nx (k R O)) q) p) r
noncomputable def qK (r:Option (RV×List Bool×List (RV×RV))) (dst:Option Nat):RT→(RT→nM)→nM:=
 Option.rec (motive:=fun _=>RT→(RT→nM)→nM) (fun _ _=>none) (fun p=>Prod.rec (motive:=fun _=>RT→(RT→nM)→nM) (fun v q=>Prod.rec (motive:=fun _=>RT→(RT→nM)→nM)
  (fun c _ R k=>Bool.rec (motive:=fun _=>nM) none (k (Jo dst v R)) (allT c)) q) p) r
noncomputable def Eo (cf:dX) (has:Nat→Bool) (call:fI) (ops:Array Oper) (l:List Oper):Ins:=
 List.rec (motive:=fun _=>Ins) (fun R O nx k=>k R O nx) (fun o _ ih R O nx k=>Bool.rec (motive:=fun _=>nM) (RB cf has call ops o R O nx (fun R O nx=>ih R O nx k)) (qK (kG cf ops [] R.fn O.fn o) o.dst R (fun R=>ih R O nx k)) (fK o)) l
noncomputable def Cw (cf:dX) (has:Nat→Bool) (call:fI) (n:Nat) (ops:Array Oper) (draw:Bool):Ins:=
 Bool.rec (motive:=fun _=>Ins)
  (fun R O nx k=>Bool.rec (motive:=fun _=>nM) none (F7 cf has call ops ops.toList R O nx k) (dF n ops))
  (Bool.rec (motive:=fun _=>Ins) (fun R O nx k=>stK (Ck cf has (Cv call) n ops true R O nx) k) (fun R O nx k=>Eo cf has call ops ops.toList R O nx k) (dF n ops&&iP ops&&Co ops)) draw
noncomputable def Lp (id:Nat) (l:List (Nat×VK)):VK:=
 List.rec (motive:=fun _=>VK) (fun _ _ _=>none) (fun h _ ih=>Prod.rec (motive:=fun _=>VK) (fun j k=>Bool.rec (motive:=fun _=>VK) ih k (Nat.beq j id)) h) l
noncomputable def QJ (b:VK→VK) (fuel:Nat):VK:=
 Nat.rec (motive:=fun _=>VK) (fun _ _ _=>none) (fun _ ih=>b ih) fuel
noncomputable def Lr (v:RV) (x y:nM):nM:=
 match v with
 | .d (.bool t)=>Bool.rec (motive:=fun _=>nM) y x t
 | _=>none
noncomputable def Jp (cf:dX) (res:List ResultVar) (wK:RK):VK:=fun R O nx=>
 Option.rec (motive:=fun _=>nM) none (fun vs=>wK (one vs) O nx) (eG (mO cf.E R.fn O.fn) res)
end Go.Am
