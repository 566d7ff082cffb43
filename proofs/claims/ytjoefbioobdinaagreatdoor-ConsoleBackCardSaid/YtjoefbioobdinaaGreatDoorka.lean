/-
  Texts that the claim leans on: AmBase, AmRel, AmExec, AmMem, AmSt, AmSound1, AmSound2.
-/
import Derived.Calls
import Derived.Orders
import Derived.KernelRfl
import Derived.Wp
import Derived.Laws.Cells
namespace Go.Am
inductive DV where
 | bool (b:Bool)
 | int (k:IntKind) (n:Int)
 | str (s:List UInt8)
 | agg (cs:List DV)
 | bI (vs:List DV)
 | aL (sz:Nat) (els:List DV) (full:Bool)
 | aD | aj | Av | wL
 | iface (t:Nat) (v:DV)
 deriving Inhabited
def DV.cells:DV→List DV
 | .agg cs=>cs
 | x=>[x]
def DV.gP:DV→Bool
 | .agg _=>false
 | .bI _=>false
 | _=>true
def DV.byte:DV→UInt8
 | .int _ n=>UInt8.ofNat n.toNat
 | _=>0
inductive RV where
 | bot
 | und
 | d (x:DV)
 | ptr (i off:Nat)
 | gq (i sz idx off:Nat)
 | bf (x:DV) (off:Nat)
 | own (i sz:Nat)
 | sub (i sz off len:Nat)
 | sl (i sz o len:Nat) (cap:Option Nat)
 | map (i:Nat)
 | fM (fn:Fn) (first caps:List RV)
 | agg (cs:List RV)
 | bI (vs:List RV)
 deriving Inhabited
inductive au where
 | box (ty:Nat) (cs:List RV)
 | arr (ty sz:Nat) (els:List DV)
 | jr (sz:Nat) (els:List DV)
 | gone
 | Vx (s:List UInt8)
 | map (es:List (DV×DV))
 | bL (ty:Nat) (cs:List RV)
 | sit (s:List UInt8) (pos:Nat) (rest:List UInt8)
 | Nv (m:Nat)
 deriving Inhabited
inductive T (α:Type) where
 | nil
 | node (v:Option α) (l r:T α)
 deriving Inhabited
def T.get {α:Type}:T α→Nat→Option α
 | .nil,_=>none
 | .node v l r,n=>bif Nat.beq n 0 then v else bif Nat.beq (n % 2) 1 then l.get (n / 2) else r.get (n / 2-1)
def T.put {α:Type}:Nat→T α→Nat→Option α→T α
 | 0,t,_,_=>t
 | f+1,t,n,x=>
   match t with
   | .nil=>bif Nat.beq n 0 then .node x .nil .nil else bif Nat.beq (n % 2) 1 then .node none (T.put f .nil (n / 2) x) .nil else .node none .nil (T.put f .nil (n / 2-1) x)
   | .node v l r=>bif Nat.beq n 0 then .node x l r else bif Nat.beq (n % 2) 1 then .node v (T.put f l (n / 2) x) r else .node v l (T.put f r (n / 2-1) x)
def T.set {α:Type} (t:T α) (n:Nat) (x:Option α):T α:=T.put 16 t n x
def T.mk {α:Type}:List (Nat×α)→T α
 | []=>.nil
 | (n,x)::r=>(T.mk r).set n (some x)
theorem zi {n m:Nat} (h:n≠m):Nat.beq n m=false:=by
 cases e:Nat.beq n m with
 | false=>rfl
 | true=>exact absurd (Nat.eq_of_beq_eq_true e) h
theorem uZ {n m:Nat} (h:n=m):Nat.beq n m=true:=by subst h;exact Nat.beq_refl n
theorem bQ {n m:Nat} (h:Nat.beq n m=true):n=m:=Nat.eq_of_beq_eq_true h
theorem T.EC {α:Type} {x:Option α}:∀(f:Nat) (t:T α),True→∀n m,m≠n→(T.put f t n x).get m=t.get m:=by
 intro f;induction f with
 | zero=>intro t _ n m _;rfl
 | succ f ih=>
   intro t _ n m hne;cases t with
   | nil=>
     simp only [T.put];by_cases h0:n=0
     ·subst h0
      have:Nat.beq m 0=false:=zi hne
      simp [T.get,this]
     ·have hn0:Nat.beq n 0=false:=zi h0;by_cases ho:n % 2=1
      ·have:Nat.beq (n % 2) 1=true:=uZ ho
       simp only [hn0,this,cond_true,cond_false,T.get];by_cases hm0:m=0
       ·subst hm0;simp
       ·have ED : Nat.beq m 0=false:=zi hm0;simp only [ED,cond_false];by_cases hmo:m % 2=1
        ·have h2:Nat.beq (m % 2) 1=true:=uZ hmo;simp only [h2,cond_true];rw [ih .nil trivial (n / 2) (m / 2) (by omega)];rfl
        ·have h2:Nat.beq (m % 2) 1=false:=zi hmo;simp only [h2,cond_false]
      ·have:Nat.beq (n % 2) 1=false:=zi ho
       simp only [hn0,this,cond_false,T.get];by_cases hm0:m=0
       ·subst hm0;simp
       ·have ED : Nat.beq m 0=false:=zi hm0;simp only [ED,cond_false];by_cases hmo:m % 2=1
        ·have h2:Nat.beq (m % 2) 1=true:=uZ hmo;simp only [h2,cond_true]
        ·have h2:Nat.beq (m % 2) 1=false:=zi hmo;simp only [h2,cond_false];rw [ih .nil trivial (n / 2-1) (m / 2-1) (by omega)];rfl
   | node v l r=>
     simp only [T.put];by_cases h0:n=0
     ·subst h0
      have:Nat.beq m 0=false:=zi hne
      simp [T.get,this]
     ·have hn0:Nat.beq n 0=false:=zi h0;by_cases ho:n % 2=1
      ·have:Nat.beq (n % 2) 1=true:=uZ ho
       simp only [hn0,this,cond_true,cond_false,T.get];by_cases hm0:m=0
       ·subst hm0;simp
       ·have ED : Nat.beq m 0=false:=zi hm0;simp only [ED,cond_false];by_cases hmo:m % 2=1
        ·have h2:Nat.beq (m % 2) 1=true:=uZ hmo;simp only [h2,cond_true];exact ih l trivial (n / 2) (m / 2) (by omega)
        ·have h2:Nat.beq (m % 2) 1=false:=zi hmo;simp only [h2,cond_false]
      ·have:Nat.beq (n % 2) 1=false:=zi ho
       simp only [hn0,this,cond_false,T.get];by_cases hm0:m=0
       ·subst hm0;simp
       ·have ED : Nat.beq m 0=false:=zi hm0;simp only [ED,cond_false];by_cases hmo:m % 2=1
        ·have h2:Nat.beq (m % 2) 1=true:=uZ hmo;simp only [h2,cond_true]
        ·have h2:Nat.beq (m % 2) 1=false:=zi hmo;simp only [h2,cond_false];exact ih r trivial (n / 2-1) (m / 2-1) (by omega)
theorem T.Aw {α:Type} {x:Option α}:∀(f:Nat) (t:T α) (n:Nat),n+1 < 2 ^ f→(T.put f t n x).get n=x:=by
 intro f;induction f with
 | zero=>intro t n h;omega
 | succ f ih=>
   intro t n h;have hp:2 ^ (f+1)=2*2 ^ f:=by rw [Nat.pow_succ];omega
   cases t with
   | nil=>
     simp only [T.put];by_cases h0:n=0
     ·subst h0;simp [T.get]
     ·have hn0:Nat.beq n 0=false:=zi h0;by_cases ho:n % 2=1
      ·have:Nat.beq (n % 2) 1=true:=uZ ho
       simp only [hn0,this,cond_true,cond_false,T.get];exact ih _ _ (by omega)
      ·have:Nat.beq (n % 2) 1=false:=zi ho
       simp only [hn0,this,cond_false,T.get];exact ih _ _ (by omega)
   | node v l r=>
     simp only [T.put];by_cases h0:n=0
     ·subst h0;simp [T.get]
     ·have hn0:Nat.beq n 0=false:=zi h0;by_cases ho:n % 2=1
      ·have:Nat.beq (n % 2) 1=true:=uZ ho
       simp only [hn0,this,cond_true,cond_false,T.get];exact ih _ _ (by omega)
      ·have:Nat.beq (n % 2) 1=false:=zi ho
       simp only [hn0,this,cond_false,T.get];exact ih _ _ (by omega)
theorem T.cu {α:Type} (t:T α) {n m:Nat} (h:m≠n) (x:Option α):(t.set n x).get m=t.get m:=
 T.EC 16 t trivial n m h
theorem T.get_set_same {α:Type} (t:T α) {n:Nat} (h:n < 65535) (x:Option α):(t.set n x).get n=x:=
 T.Aw 16 t n (by omega)
inductive Cls where
 | dA | own (i:Nat) | kr
 deriving DecidableEq
inductive Yf where
 | un | nil | at (b:Nat)
 deriving DecidableEq
abbrev bn:=Nat→Cls
abbrev bG:=Nat→Yf
abbrev Heap:=Array Obj
abbrev Tab:=Nat→Option au
def wM (sz:Nat) (els:List DV):Prop:=∀x∈els,x.cells.length=sz∧∀y∈x.cells,y.gP=true
inductive DR (κ:bn) (h:Heap):DV→Value→Prop where
 | bool (b:Bool):DR κ h (.bool b) (.bool b)
 | int (k:IntKind) (n:Int):DR κ h (.int k n) (.int k n)
 | str (s:List UInt8):DR κ h (.str s) (.string ⟨s.toArray⟩)
 | agg {cs:List DV} {vs:Array Value} (hl:vs.size=cs.length) (hs:∀y∈cs,y.gP=true)
    (hr:∀(i:Nat) (x:DV) (v:Value),cs[i]? = some x→vs[i]? = some v→DR κ h x v):DR κ h (.agg cs) (.agg vs)
 | bI {cs:List DV} {vs:Array Value} (hl:vs.size=cs.length)
    (hr:∀(i:Nat) (x:DV) (v:Value),cs[i]? = some x→vs[i]? = some v→DR κ h x v):DR κ h (.bI cs) (.tuple vs)
 | iD {sz:Nat} {full:Bool} {base:Option Addr} {cap:Nat} (hf:full=true→cap=0∧(sz=0→base=none)):DR κ h (.aL sz [] full) (.slice base 0 cap)
 | aL {sz:Nat} {els:List DV} {full:Bool} {b off cap:Nat} {c:Array Value} {ty:TypeId} {fz:Nat×Nat}
    (hκ:κ b = .dA) (hb:h[b]? = some (.cells c ty fz)) (hf:full=true→cap=els.length∧1≤sz) (hc:els.length≤cap)
    (hs:off+cap*sz≤c.size) (hz:wM sz els)
    (hr:∀(i:Nat) (x:DV) (j:Nat) (y:DV) (v:Value),els[i]? = some x→x.cells[j]? = some y→c[off+i*sz+j]? = some v→DR κ h y v) :
    DR κ h (.aL sz els full) (.slice (some ⟨b,off,none⟩) els.length cap)
 | aD:DR κ h .aD (.pointer none)
 | aj:DR κ h .aj (.map none)
 | Av:DR κ h .Av .nilFunc
 | wL:DR κ h .wL .nilIface
 | iface {t:TypeId} {x:DV} {v:Value} (hr:DR κ h x v):DR κ h (.iface t x) (.iface t v)
theorem DR.mono {κ κ' : bn} {h h' : Heap} (hm:∀b,κ b = .dA→κ' b = .dA∧h'[b]? = h[b]?) {x:DV} {v:Value} (r:DR κ h x v):DR κ' h' x v:=by
 induction r with
 | bool b=>exact .bool b
 | int k n=>exact .int k n
 | str s=>exact .str s
 | agg hl hs _ ih=>exact .agg hl hs ih
 | bI hl _ ih=>exact .bI hl ih
 | iD hf=>exact .iD hf
 | aL hκ hb hf hc hs hz _ ih=>exact .aL (hm _ hκ).1 (by rw [(hm _ hκ).2];exact hb) hf hc hs hz ih
 | aD=>exact .aD
 | aj=>exact .aj
 | Av=>exact .Av
 | wL=>exact .wL
 | iface _ ih=>exact .iface ih
def au.cB : Option au→Option Nat
 | some (.arr _ _ els)=>some els.length
 | some (.jr _ els)=>some els.length
 | some (.bL _ cs)=>some cs.length
 | _=>none
inductive bB (κ:bn) (φ:bG) (O:Tab) (h:Heap):RV→Value→Prop where
 | bot (v:Value):bB κ φ O h .bot v
 | und:bB κ φ O h .und undef
 | d {x:DV} {v:Value} (hr:DR κ h x v):bB κ φ O h (.d x) v
 | ptr {i off b:Nat} (hφ:φ i = .at b):bB κ φ O h (.ptr i off) (.pointer (some ⟨b,off,none⟩))
 | gq {i sz idx off b:Nat} (hφ:φ i = .at b):bB κ φ O h (.gq i sz idx off) (.pointer (some ⟨b,idx*sz+off,none⟩))
 | bf {x:DV} {off b o:Nat} {c:Array Value} {ty:TypeId} {fz:Nat×Nat} (hκ:κ b = .dA) (hb:h[b]? = some (.cells c ty fz))
    (hs:o+x.cells.length≤c.size) (hz:∀y∈x.cells,y.gP=true)
    (hr:∀(j:Nat) (y:DV) (v:Value),x.cells[j]? = some y→c[o+j]? = some v→DR κ h y v) :
    bB κ φ O h (.bf x off) (.pointer (some ⟨b,o+off,none⟩))
 | own {i sz b len cap:Nat} {c:Array Value} {ty:TypeId} {fz:Nat×Nat} (hφ:φ i = .at b) (hb:h[b]? = some (.cells c ty fz))
    (hcap:cap*sz≤c.size) (hlc:len≤cap) (hlen:∀n,au.cB (O i)=some n→len=n) :
    bB κ φ O h (.own i sz) (.slice (some ⟨b,0,none⟩) len cap)
 | fP {i sz:Nat} {base:Option Addr} (hφ:φ i = .nil):bB κ φ O h (.own i sz) (.slice base 0 0)
 | sub {i sz off len cap b:Nat} {c:Array Value} {ty:TypeId} {fz:Nat×Nat} (hφ:φ i = .at b) (hb:h[b]? = some (.cells c ty fz))
    (hcap:(off+cap)*sz≤c.size) (hlc:len≤cap):bB κ φ O h (.sub i sz off len) (.slice (some ⟨b,off*sz,none⟩) len cap)
 | nU {i sz off:Nat} {base:Option Addr} (hφ:φ i≠.un):bB κ φ O h (.sub i sz off 0) (.slice base 0 0)
 | map {i b:Nat} (hφ:φ i = .at b):bB κ φ O h (.map i) (.map (some b))
 | sl {i sz o len:Nat} {cap:Option Nat} {b o' eB:Nat} {c:Array Value} {ty:TypeId} {fz:Nat×Nat} (hφ:φ i = .at b) (hb:h[b]? = some (.cells c ty fz))
    (ho:o'=o∨eB=0) (hs:o'+eB*sz≤c.size) (hl:len≤eB) (hc:∀k,cap=some k→eB=k)
    (hn:cap=none→∀n,au.cB (O i)=some n→n≤o+eB*sz):bB κ φ O h (.sl i sz o len cap) (.slice (some ⟨b,o',none⟩) len eB)
 | fM {fn:Fn} {fs cs:List RV} {f c:Array Value} (hfl:f.size=fs.length) (hcl:c.size=cs.length)
    (hf:∀(i:Nat) (x:RV) (v:Value),fs[i]? = some x→f[i]? = some v→bB κ φ O h x v)
    (hc:∀(i:Nat) (x:RV) (v:Value),cs[i]? = some x→c[i]? = some v→bB κ φ O h x v):bB κ φ O h (.fM fn fs cs) (.func fn f c)
 | agg {cs:List RV} {vs:Array Value} (hl:vs.size=cs.length)
    (hs:∀v∈vs,v.oneCell=true)
    (hr:∀(i:Nat) (x:RV) (v:Value),cs[i]? = some x→vs[i]? = some v→bB κ φ O h x v):bB κ φ O h (.agg cs) (.agg vs)
 | bI {cs:List RV} {vs:Array Value} (hl:vs.size=cs.length)
    (hr:∀(i:Nat) (x:RV) (v:Value),cs[i]? = some x→vs[i]? = some v→bB κ φ O h x v):bB κ φ O h (.bI cs) (.tuple vs)
structure dG (κ:bn) (φ:bG) (O:Tab) (h:Heap) (κ' : bn) (φ' : bG) (O' : Tab) (h' : Heap):Prop where
 dA:∀b,κ b = .dA→κ' b = .dA∧h'[b]? = h[b]?
 wu:∀(b:Nat) (c:Array Value) (ty:TypeId) (fz:Nat×Nat),h[b]? = some (.cells c ty fz)→∃c' tL,h'[b]? = some (.cells c' ty tL)∧c'.size=c.size
 phi:∀i,φ i≠.un→φ' i=φ i
 len:∀i n,φ i≠.un→au.cB (O' i)=some n→au.cB (O i)=some n
theorem dG.refl (κ:bn) (φ:bG) (O:Tab) (h:Heap):dG κ φ O h κ φ O h:=
 ⟨fun _ hb=>⟨hb,rfl⟩,fun _ c _ fz hc=>⟨c,fz,hc,rfl⟩,fun _ _=>rfl,fun _ _ _ hn=>hn⟩
theorem dG.trans {κ κ' κ'' : bn} {φ φ' φ'' : bG} {O O' P9 : Tab} {h h' h'' : Heap} (a:dG κ φ O h κ' φ' O' h') (b:dG κ' φ' O' h' κ'' φ'' P9 h''):dG κ φ O h κ'' φ'' P9 h'' where
 dA:=fun x hx=>⟨(b.dA x (a.dA x hx).1).1,(b.dA x (a.dA x hx).1).2.trans (a.dA x hx).2⟩
 wu:=fun x c ty fz hc=>by
  obtain ⟨c',tL,h1,h2⟩:=a.wu x c ty fz hc;obtain ⟨c'',QH,h3,h4⟩:=b.wu x c' ty tL h1;exact ⟨c'',QH,h3,h4.trans h2⟩
 phi:=fun i hi=>by rw [b.phi i (by rw [a.phi i hi];exact hi),a.phi i hi]
 len:=fun i n hi hn=>a.len i n hi (b.len i n (by rw [a.phi i hi];exact hi) hn)
theorem bB.mono {κ κ' : bn} {φ φ' : bG} {O O' : Tab} {h h' : Heap} (M:dG κ φ O h κ' φ' O' h') {x:RV} {v:Value} (r:bB κ φ O h x v):bB κ' φ' O' h' x v:=by
 induction r with
 | bot v=>exact .bot v
 | und=>exact .und
 | d hr=>exact .d (hr.mono M.dA)
 | ptr hφ=>exact .ptr (by rw [M.phi _ (by rw [hφ];simp)];exact hφ)
 | gq hφ=>exact .gq (by rw [M.phi _ (by rw [hφ];simp)];exact hφ)
 | bf hκ hb hs hz hr=>exact .bf (M.dA _ hκ).1 (by rw [(M.dA _ hκ).2];exact hb) hs hz (fun j y v hy hv=>(hr j y v hy hv).mono M.dA)
 | own hφ hb hcap hlc hlen=>
   obtain ⟨c',tL,h1,h2⟩:=M.wu _ _ _ _ hb;exact .own (by rw [M.phi _ (by rw [hφ];simp)];exact hφ) h1 (by rw [h2];exact hcap) hlc (fun n hn=>hlen n (M.len _ n (by rw [hφ];simp) hn))
 | fP hφ=>exact .fP (by rw [M.phi _ (by rw [hφ];simp)];exact hφ)
 | sub hφ hb hcap hlc=>
   obtain ⟨c',tL,h1,h2⟩:=M.wu _ _ _ _ hb;exact .sub (by rw [M.phi _ (by rw [hφ];simp)];exact hφ) h1 (by rw [h2];exact hcap) hlc
 | nU hφ=>exact .nU (by rw [M.phi _ hφ];exact hφ)
 | map hφ=>exact .map (by rw [M.phi _ (by rw [hφ];simp)];exact hφ)
 | sl hφ hb ho hs hl hc hn=>
   obtain ⟨c',tL,h1,h2⟩:=M.wu _ _ _ _ hb;exact .sl (by rw [M.phi _ (by rw [hφ];simp)];exact hφ) h1 ho (by rw [h2];exact hs) hl hc (fun e n hlen=>hn e n (M.len _ n (by rw [hφ];simp) hlen))
 | fM hfl hcl _ _ ihf ihc=>exact .fM hfl hcl ihf ihc
 | agg hl hs _ ih=>exact .agg hl hs ih
 | bI hl _ ih=>exact .bI hl ih
def tV (fz:Nat×Nat) (n:Nat):Prop:=∀o,o < n→¬(fz.1≤o∧o < fz.2)
def EL (κ:bn) (h:Heap) (c:Array Value) (off sz:Nat) (els:List DV):Prop:=
 wM sz els∧off+els.length*sz≤c.size∧
 ∀(i:Nat) (x:DV) (j:Nat) (y:DV) (v:Value),els[i]? = some x→x.cells[j]? = some y→c[off+i*sz+j]? = some v→DR κ h y v
theorem EL.mono {κ κ' : bn} {h h' : Heap} (hm:∀b,κ b = .dA→κ' b = .dA∧h'[b]? = h[b]?) {c:Array Value} {off sz:Nat} {els:List DV} (e:EL κ h c off sz els):EL κ' h' c off sz els:=
 ⟨e.1,e.2.1,fun i x j y v hx hy hv=>(e.2.2 i x j y v hx hy hv).mono hm⟩
def Vy (κ:bn) (i b:Nat) (h:Heap) (c:Array Value) (s:List UInt8):Prop:=
 (s=[]∧(c = #[.pointer none,.slice none 0 0]∨c = #[.pointer (some ⟨b,0,none⟩),.slice none 0 0]))∨
 (∃b2 cap c2 Vo lo hi,c = #[.pointer (some ⟨b,0,none⟩),.slice (some ⟨b2,0,none⟩) s.length cap]∧κ b2 = .own i∧b2≠b∧
   h[b2]? = some (.cells c2 Vo (lo,hi))∧(hi≤s.length∨(lo=hi))∧s.length≤cap∧cap≤c2.size∧
   ∀(j:Nat) (x:UInt8),s[j]? = some x→c2[j]? = some (.int .u8 x.toNat))
def JJ (dN:Array MapEntry) (n:Nat):Prop:=dN.size=n∧(dN.toList.map fun e=>e.born).Nodup
def RL (κ:bn) (φ:bG) (O:Tab) (h:Heap) (c:Array Value) (o:Nat) (cs:List RV):Prop:=
 o+cs.length≤c.size∧∀(j:Nat) (x:RV) (v:Value),cs[j]? = some x→c[o+j]? = some v→bB κ φ O h x v∧v.oneCell=true
theorem RL.mono {κ κ' : bn} {φ φ' : bG} {O O' : Tab} {h h' : Heap} (M:dG κ φ O h κ' φ' O' h') {c:Array Value} {o:Nat} {cs:List RV} (r:RL κ φ O h c o cs):RL κ' φ' O' h' c o cs:=
 ⟨r.1,fun j x v hx hv=>⟨(r.2 j x v hx hv).1.mono M,(r.2 j x v hx hv).2⟩⟩
class Gl where
 gl:List (Nat×(Array Value→Prop))
 mark:TypeId→Bool:=fun _=>true
def Yg [Gl] (ty:TypeId) (fz:Nat×Nat) (n:Nat):Prop:=tV fz n∧(Gl.mark ty=false→fz.2≤n)
def OR [Gl] (κ:bn) (φ:bG) (O:Tab) (h:Heap) (i:Nat):Option au→Prop
 | none=>φ i = .un
 | some .gone=>True
 | some (.box ty cs)=>∃b c,φ i = .at b∧κ b = .own i∧h[b]? = some (.cells c ty (0,0))∧c.size=cs.length∧(∀v∈c,v.oneCell=true)∧
    ∀(j:Nat) (x:RV) (v:Value),cs[j]? = some x→c[j]? = some v→bB κ φ O h x v
 | some (.arr ty sz els)=>(φ i = .nil∧els=[])∨∃b c fz,φ i = .at b∧κ b = .own i∧h[b]? = some (.cells c ty fz)∧tV fz c.size∧EL κ h c 0 sz els
 | some (.jr sz els)=>(φ i = .nil∧els=[])∨∃b c ty fz,φ i = .at b∧κ b = .dA∧h[b]? = some (.cells c ty fz)∧EL κ h c 0 sz els
 | some (.bL ty cs)=>∃b c fz,φ i = .at b∧κ b = .own i∧h[b]? = some (.cells c ty fz)∧Yg ty fz c.size∧RL κ φ O h c 0 cs
 | some (.sit s pos rest)=>∃b,φ i = .at b∧κ b = .own i∧h[b]? = some (.stringIter ⟨s.toArray⟩ pos)∧rest=s.drop pos
 | some (.Nv m)=>∃b mb c,φ i = .at b∧κ b = .own i∧φ m = .at mb∧h[b]? = some (.mapIter (some mb) c #[] c)
 | some (.Vx s)=>∃b c ty,φ i = .at b∧κ b = .own i∧h[b]? = some (.cells c ty (0,0))∧Vy κ i b h c s
 | some (.map es)=>∃b dN clock,φ i = .at b∧κ b = .own i∧h[b]? = some (.map dN clock)∧JJ dN es.length∧
    ∀(j:Nat) (x:DV×DV) (e:MapEntry),es[j]? = some x→dN[j]? = some e→DR κ h x.1 e.key∧DR κ h x.2 e.val∧e.born < clock
theorem OR.mono [Gl] {κ κ' : bn} {φ φ' : bG} {O O' : Tab} {h h' : Heap} {i:Nat} {ob:Option au} (M:dG κ φ O h κ' φ' O' h')
 (hk:∀b,κ b = .own i→κ' b = .own i∧h'[b]? = h[b]?) (hp:φ' i=φ i) (r:OR κ φ O h i ob):OR κ' φ' O' h' i ob:=by
 cases ob with
 | none=>exact hp.trans r
 | some p=>
   cases p with
   | gone=>exact trivial
   | box ty cs=>
     obtain ⟨b,c,h1,h2,h3,h4,h5,h6⟩:=r;exact ⟨b,c,hp.trans h1,(hk b h2).1,(hk b h2).2.trans h3,h4,h5,fun j x v hx hv=>(h6 j x v hx hv).mono M⟩
   | arr ty sz els=>
     rcases r with ⟨h1,h2⟩ | ⟨b,c,fz,h1,h2,h3,h4,h5⟩
     ·exact .inl ⟨hp.trans h1,h2⟩
     ·exact .inr ⟨b,c,fz,hp.trans h1,(hk b h2).1,(hk b h2).2.trans h3,h4,h5.mono M.dA⟩
   | jr sz els=>
     rcases r with ⟨h1,h2⟩ | ⟨b,c,ty,fz,h1,h2,h3,h5⟩
     ·exact .inl ⟨hp.trans h1,h2⟩
     ·exact .inr ⟨b,c,ty,fz,hp.trans h1,(M.dA b h2).1,(M.dA b h2).2.trans h3,h5.mono M.dA⟩
   | bL ty cs=>
     obtain ⟨b,c,fz,h1,h2,h3,h4,h5⟩:=r;exact ⟨b,c,fz,hp.trans h1,(hk b h2).1,(hk b h2).2.trans h3,h4,h5.mono M⟩
   | sit s pos rest=>
     obtain ⟨b,h1,h2,h3,h4⟩:=r;exact ⟨b,hp.trans h1,(hk b h2).1,(hk b h2).2.trans h3,h4⟩
   | Nv m=>
     obtain ⟨b,mb,c,h1,h2,h3,h4⟩:=r;exact ⟨b,mb,c,hp.trans h1,(hk b h2).1,by rw [M.phi m (by rw [h3];simp)];exact h3,(hk b h2).2.trans h4⟩
   | Vx s=>
     obtain ⟨b,c,ty,h1,h2,h3,h4⟩:=r;refine ⟨b,c,ty,hp.trans h1,(hk b h2).1,(hk b h2).2.trans h3,?_⟩;rcases h4 with h4 | ⟨b2,cap,c2,Vo,lo,hi,g1,g2,g3,g4,g5⟩
     ·exact .inl h4
     ·exact .inr ⟨b2,cap,c2,Vo,lo,hi,g1,(hk b2 g2).1,g3,(hk b2 g2).2.trans g4,g5⟩
   | map es=>
     obtain ⟨b,dN,clock,h1,h2,h3,h4,h5⟩:=r;refine ⟨b,dN,clock,hp.trans h1,(hk b h2).1,(hk b h2).2.trans h3,h4,fun j x e hx he=>?_⟩;obtain ⟨g1,g2,g3⟩:=h5 j x e hx he;exact ⟨g1.mono M.dA,g2.mono M.dA,g3⟩
structure bP where
 n:Nat
 R:Nat→RV
 O:Tab
 df:List (Nat×List RV):=[]
def Qa (κ:bn) (φ:bG) (O:Tab) (h:Heap):List (Nat×List RV)→List Deferred→Prop
 | [],[]=>True
 | p::l,d::ds=>d.target = .fn (.func p.1) #[]∧d.args.size=p.2.length∧
    (∀(i:Nat) (x:RV) (v:Value),p.2[i]? = some x→d.args[i]? = some v→bB κ φ O h x v)∧Qa κ φ O h l ds
 | _,_=>False
theorem Qa.nil {κ:bn} {φ:bG} {O:Tab} {h:Heap} {ds:List Deferred} (r:Qa κ φ O h [] ds):ds=[]:=by
 cases ds with
 | nil=>rfl
 | cons=>exact r.elim
theorem Qa.mono {κ κ' : bn} {φ φ' : bG} {O O' : Tab} {h h' : Heap} (M:dG κ φ O h κ' φ' O' h'):∀{l:List (Nat×List RV)} {ds:List Deferred},Qa κ φ O h l ds→Qa κ' φ' O' h' l ds
 | [],[],_=>trivial
 | _::_,_::_,r=>⟨r.1,r.2.1,fun i x v hx hv=>(r.2.2.1 i x v hx hv).mono M,r.2.2.2.mono M⟩
 | [],_::_,r=>r.elim
 | _::_,[],r=>r.elim
class Df where
 df:List (Nat×List RV)
instance (priority:=low) aaR:Df:=⟨[]⟩
structure Ay [Gl] (κ:bn) (w:World):Prop where
 lt:∀b,κ b≠.kr→b < w.heap.size
 gl:∀p∈Gl.gl,(κ p.1 = .kr∨κ p.1 = .dA)∧∃c ty fz,w.heap[p.1]? = some (.cells c ty fz)∧p.2 c
structure av [Gl] (κ:bn) (φ:bG) (w:World) (s:bP) (a:Act):Prop where
 regs:∀t,bB κ φ s.O w.heap (s.R t) (a.tmps.getD t undef)
 objs:∀i,OR κ φ s.O w.heap i (s.O i)
 bnd:Ay κ w
 n:a.tmps.size=s.n
 df:Qa κ φ s.O w.heap s.df a.defers
structure Fr (κ:bn) (w:World) (κ' : bn) (w' : World):Prop where
 size:w.heap.size≤w'.heap.size
 dA:∀b,κ b = .dA→κ' b = .dA∧w'.heap[b]? = w.heap[b]?
 kr:∀b,b < w.heap.size→κ b = .kr→κ' b = .kr∧w'.heap[b]? = w.heap[b]?
 wu:∀(b:Nat) (c:Array Value) (ty:TypeId) (fz:Nat×Nat),w.heap[b]? = some (.cells c ty fz)→∃c' tL,w'.heap[b]? = some (.cells c' ty tL)∧c'.size=c.size
 os:w'.os=w.os
 out:w'.output=w.output
theorem Ay.step [Gl] {κ κ' : bn} {w w' : World} (h:Ay κ w) (f:Fr κ w κ' w') (hb:∀b,κ' b≠.kr→b < w'.heap.size):Ay κ' w':=
 ⟨hb,fun p hp=>by
   obtain ⟨h1,c,ty,fz,h2,h5⟩:=h.gl p hp;have hlt:=(Array.getElem?_eq_some_iff.1 h2).1;rcases h1 with h1 | h1
   ·obtain ⟨h3,h4⟩:=f.kr p.1 hlt h1;exact ⟨.inl h3,c,ty,fz,h4.trans h2,h5⟩
   ·obtain ⟨h3,h4⟩:=f.dA p.1 h1;exact ⟨.inr h3,c,ty,fz,h4.trans h2,h5⟩⟩
theorem Ay.same [Gl] {κ κ' : bn} {w:World} (h:Ay κ w) (h1:∀b,κ b = .kr→κ' b = .kr) (h2:∀b,κ b = .dA→κ' b = .dA):Ay κ' w:=
 ⟨fun b hb=>h.lt b (fun e=>hb (h1 b e)),fun p hp=>⟨(h.gl p hp).1.imp (h1 _) (h2 _),(h.gl p hp).2⟩⟩
theorem Fr.refl (κ:bn) (w:World):Fr κ w κ w:=⟨Nat.le_refl _,fun _ hb=>⟨hb,rfl⟩,fun _ _ hb=>⟨hb,rfl⟩,fun _ c _ fz hc=>⟨c,fz,hc,rfl⟩,rfl,rfl⟩
theorem Fr.trans {κ κ' κ'' : bn} {w w' w'' : World} (a:Fr κ w κ' w') (b:Fr κ' w' κ'' w''):Fr κ w κ'' w'' where
 size:=Nat.le_trans a.size b.size
 dA:=fun x hx=>⟨(b.dA x (a.dA x hx).1).1,(b.dA x (a.dA x hx).1).2.trans (a.dA x hx).2⟩
 kr:=fun x hb hx=>by
  have h1:=a.kr x hb hx;have h2:=b.kr x (Nat.lt_of_lt_of_le hb a.size) h1.1;exact ⟨h2.1,h2.2.trans h1.2⟩
 wu:=fun x c ty fz hc=>by
  obtain ⟨c',tL,h1,h2⟩:=a.wu x c ty fz hc;obtain ⟨c'',QH,h3,h4⟩:=b.wu x c' ty tL h1;exact ⟨c'',QH,h3,h4.trans h2⟩
 os:=b.os.trans a.os
 out:=b.out.trans a.out
theorem DR.oneCell {κ:bn} {h:Heap} {x:DV} {v:Value} (r:DR κ h x v) (hs:x.gP=true):v.oneCell=true:=by
 cases r<;>first | rfl | (simp [DV.gP] at hs)
theorem DR.cells {κ:bn} {h:Heap} {x:DV} {v:Value} (r:DR κ h x v) :
 v.cells.size=x.cells.length∧∀(j:Nat) (y:DV) (u:Value),x.cells[j]? = some y→v.cells[j]? = some u→DR κ h y u:=by
 cases r with
 | agg hl hs hr=>exact ⟨hl,hr⟩
 | _=>refine ⟨rfl,fun j y u hy hu=>?_⟩<;>(cases j with
   | zero=>simp only [DV.cells,Value.cells,List.getElem?_cons_zero,Option.some.injEq] at hy hu;subst hy;simp at hu;subst hu;constructor<;>assumption
   | succ j=>simp [DV.cells] at hy)
end Go.Am
namespace Go.Am
set_option linter.unusedSectionVars false
variable [Gl]
structure Env where
 und:Nat→Option TypeDesc
 size:Nat→Option Nat
 bytes:Nat→Option Nat
 zero:Nat→Option DV
 QI:Nat→Bool
def oneOf:Value→Option DV
 | .bool b=>some (.bool b)
 | .int k n=>some (.int k n)
 | .string s=>some (.str s.data.toList)
 | .pointer none=>some .aD
 | .slice none l c=>bif Nat.beq l 0&&Nat.beq c 0 then some (.aL 0 [] true) else none
 | .map none=>some .aj
 | .nilFunc=>some .Av
 | .nilIface=>some .wL
 | _=>none
def ng:List Value→Option (List DV)
 | []=>some []
 | v::r=>match oneOf v,ng r with
   | some x,some l=>some (x::l)
   | _,_=>none
def DV.qy:Value→Option DV
 | .agg cs=>match ng cs.toList with
   | some l=>some (.agg l)
   | none=>none
 | .tuple cs=>match ng cs.toList with
   | some l=>some (.bI l)
   | none=>none
 | v=>oneOf v
def Env.of (P:Program):Env where
 und:=P.underlying
 size:=fun t=>match P.underlying t,P.info? t with
  | some _,some i=>some i.size
  | _,_=>none
 bytes:=fun t=>match P.info? t with
  | some i=>some i.bytes
  | none=>none
 zero:=fun t=>match P.info? t with
  | some i=>match i.zero with
    | some v=>DV.qy v
    | none=>none
  | none=>none
 QI:=fun t=>!(P.stoodInHeld t) && !(P.eqGuardType P.depth t)
def Env.isAgg (E:Env) (t:Nat):Bool:=
 match E.und t with
 | some (.struct _)=>true
 | some (.array _ _)=>true
 | _=>false
def aH (R:Nat→RV):Operand→RV
 | .tmp t=>R t
 | .const v=>match DV.qy v with
   | some x=>.d x
   | none=>.bot
 | .global _=>.bot
 | .func f=>.fM (.func f) [] []
structure bX where
 val:RV
 upd:List (Nat×au):=[]
 conds:List Bool:=[]
def RV.cells:RV→List RV
 | .d x=>x.cells.map .d
 | .agg cs=>cs
 | v=>[v]
def CJ:List RV→Option (List DV)
 | []=>some []
 | .d x::r=>match CJ r with
   | some l=>some (x::l)
   | none=>none
 | _::_=>none
def qz (cs:List RV):RV:=
 match CJ cs with
 | some l=>.d (.agg l)
 | none=>.agg cs
def gH (O:Tab):RV→Option (DV×List (Nat×au)×List Bool)
 | .d x=>some (x,[],[])
 | .own i sz=>match O i with
   | some (.arr _ sz' els)=>bif Nat.beq sz' sz then some (.aL sz els false,[(i,.jr sz els)],[]) else none
   | some (.jr sz' els)=>bif Nat.beq sz' sz then some (.aL sz els false,[],[]) else none
   | _=>none
 | .sub i sz off len=>match O i with
   | some (.arr _ sz' els)=>bif Nat.beq sz' sz then some (.aL sz ((els.drop off).take len) false,[(i,.jr sz els)],[decide (off+len≤els.length)]) else none
   | some (.jr sz' els)=>bif Nat.beq sz' sz then some (.aL sz ((els.drop off).take len) false,[],[decide (off+len≤els.length)]) else none
   | _=>none
 | _=>none
def iL (O:Tab):List RV→Option (List DV×List (Nat×au)×List Bool)
 | []=>some ([],[],[])
 | v::r=>match gH O v,iL O r with
   | some (x,u,c),some (l,u',c')=>bif x.gP then some (x::l,u++u',c++c') else none
   | _,_=>none
def rQ (O:Tab):RV→Option (DV×List (Nat×au)×List Bool)
 | .agg cs=>match iL O cs with
   | some (l,u,c)=>some (.agg l,u,c)
   | none=>none
 | v=>gH O v
def chunks (sz:Nat) (agg:Bool):Nat→List DV→List DV
 | 0,_=>[]
 | n+1,l=>(bif agg then .agg (l.take sz) else l.headD .aD)::chunks sz agg n (l.drop sz)
def fO (l:List DV):Bool:=l.all DV.gP
def newObj (E:Env) (t:Nat) (v:RV):Option (au×List (Nat×au)×List Bool):=
 match E.size t with
 | none=>none
 | some z=>
   match E.und t with
   | some (.array n e)=>
     match v,E.size e with
     | .d (.agg cs),some sz=>bif Nat.beq cs.length z&&Nat.beq z (n*sz)&&fO cs&&Nat.ble 1 sz&&(E.isAgg e||Nat.beq sz 1) then some (.arr t sz (chunks sz (E.isAgg e) n cs),[],[]) else none
     | _,_=>none
   | _=>bif Nat.beq v.cells.length z then
      match v with
      | .d (.bI _)=>none
      | .bI _=>none
      | .bot=>none
      | .und=>none
      | _=>some (.box t v.cells,[],[])
     else none
def oQ (E:Env) (O:Tab) (sl t:Nat) (v:RV):Option bX:=
 match O sl with
 | some _=>none
 | none=>match newObj E t v with
   | some (p,u,c)=>some { val:=.ptr sl 0,upd:=(sl,p)::u,conds:=c }
   | none=>none
def laid (size:Nat→Option (Nat×Nat)) (z:List RV):List (Nat×RV)→Option (List RV)
 | []=>some z
 | (i,v)::r=>match size i with
   | some (off,n)=>bif Nat.beq v.cells.length n&&Nat.ble (off+n) z.length then laid size (z.take off++v.cells++z.drop (off+n)) r else none
   | none=>none
def iU (E:Env) (fs:Array Field) (i:Nat):Option (Nat×Nat):=
 match fs[i]? with
 | some f=>match E.size f.type with
   | some n=>some (f.offset,n)
   | none=>none
 | none=>none
def dB:RV→Bool
 | .bot=>false
 | .und=>false
 | .bI _=>false
 | .d (.bI _)=>false
 | _=>true
def Az (E:Env) (t:Nat) (parts:List (Nat×RV)):Option bX:=
 bif parts.all (fun p=>dB p.2) then
  match E.zero t,E.und t with
  | some z,some (.struct fs)=>bif fs.toList.all (fun f=>(E.size f.type).isSome)&&dB (.d z) then
     match laid (iU E fs) (z.cells.map .d) parts with
     | some cs=>some { val:=qz cs }
     | none=>none
    else none
  | some z,some (.array _ e)=>match E.size e with
    | some sz=>bif dB (.d z) then
       match laid (fun i=>some (i*sz,sz)) (z.cells.map .d) parts with
       | some cs=>some { val:=qz cs }
       | none=>none
      else none
    | none=>none
  | _,_=>none
 else none
def nO (O:Tab):List (Nat×RV)→Option (List (Nat×DV)×List (Nat×au)×List Bool)
 | []=>some ([],[],[])
 | (i,v)::r=>match rQ O v,nO O r with
   | some (x,u,c),some (l,u',c')=>some ((i,x)::l,u++u',c++c')
   | _,_=>none
def ni (sz:Nat):Nat→List (Nat×DV)→Option (List DV)
 | _,[]=>some []
 | k,(i,x)::r=>bif Nat.beq i k&&Nat.beq x.cells.length sz&&fO x.cells then
    match ni sz (k+1) r with
    | some l=>some (x::l)
    | none=>none
   else none
def iy (E:Env) (O:Tab) (sl t len:Nat) (parts:List (Nat×RV)):Option bX:=
 match O sl,E.und t with
 | none,some (.slice e)=>match E.size e,E.zero e with
   | some sz,some _=>match nO O parts with
     | some (ps,u,c)=>bif Nat.beq ps.length len&&Nat.ble 1 sz&&Nat.ble (len*sz) 1000000&&(u.all fun p=>!(Nat.beq p.1 sl)) then
        match ni sz 0 ps with
        | some els=>some { val:=.own sl sz,upd:=u++[(sl,.arr e sz els)],conds:=c }
        | none=>none
       else none
     | none=>none
   | _,_=>none
 | _,_=>none
def cut (E:Env) (t z:Nat) (cs:List DV) (off:Nat):Option DV:=
 bif Nat.ble (off+z) cs.length then
  bif E.isAgg t then some (.agg ((cs.drop off).take z)) else bif Nat.beq z 1 then some (cs.getD off .aD) else none
 else none
def wz (E:Env) (t z sz off idx:Nat) (els:List DV):Option (DV×List Bool):=
 bif Nat.beq off 0&&Nat.beq z sz&&Nat.beq sz 1 && !E.isAgg t then some (els.getD idx .aD,[decide (idx < els.length),(els.getD idx .aD).gP])
 else match cut E t z (els.getD idx .aD).cells off with
  | some y=>some (y,[decide (idx < els.length)])
  | none=>none
def NH (E:Env) (t z:Nat) (cs:List DV) (off:Nat):Option (DV×List Bool):=
 bif E.isAgg t then some (.agg ((cs.drop off).take z),[Nat.ble (off+z) cs.length]) else bif Nat.beq z 1 then some (cs.getD off .aD,[Nat.ble (off+z) cs.length]) else none
def tX (E:Env) (t z sz off idx:Nat) (els:List DV):Option (DV×List Bool):=
 bif Nat.beq off 0&&Nat.beq z sz&&Nat.beq sz 1 && !E.isAgg t then some (els.getD idx .aD,[decide (idx < els.length),(els.getD idx .aD).gP])
 else match NH E t z (els.getD idx .aD).cells off with
  | some (y,c)=>some (y,decide (idx < els.length)::c)
  | none=>none
def lM (E:Env) (O:Tab) (t:Nat) (a:RV):Option bX:=
 match E.size t with
 | none=>none
 | some z=>
   match a with
   | .bf x off=>match cut E t z x.cells off with
     | some y=>some { val:=.d y }
     | none=>none
   | .ptr i off=>match O i with
     | some (.box _ cs)=>bif Nat.ble (off+z) cs.length then
        bif E.isAgg t then some { val:=qz ((cs.drop off).take z) } else bif Nat.beq z 1 then some { val:=cs.getD off .bot } else none
       else none
     | some (.arr _ sz els)=>bif E.isAgg t&&Nat.beq off 0 then some { val:=.d (.agg (els.flatMap DV.cells)),conds:=[decide (els.length*sz=z)] } else none
     | _=>none
   | .gq i sz idx off=>match O i with
     | some (.arr _ sz' els)=>bif Nat.beq sz' sz then
        match tX E t z sz off idx els with
        | some (y,c)=>some { val:=.d y,conds:=c }
        | none=>none
       else none
     | some (.jr sz' els)=>bif Nat.beq sz' sz then
        match tX E t z sz off idx els with
        | some (y,c)=>some { val:=.d y,conds:=c }
        | none=>none
       else none
     | _=>none
   | _=>none
def splice {α:Type} (cs:List α) (off:Nat) (vs:List α):List α:=cs.take off++vs++cs.drop (off+vs.length)
def kY (E:Env) (O:Tab) (t:Nat) (a v:RV):Option bX:=
 match E.size t with
 | none=>none
 | some z=>
   match a with
   | .ptr i off=>match O i with
     | some (.box ty cs)=>bif dB v&&Nat.beq v.cells.length z&&Nat.ble (off+z) cs.length then some { val:=.bot,upd:=[(i,.box ty (splice cs off v.cells))] } else none
     | some (.arr ty sz els)=>match v,E.und t with
       | .d (.agg l),some (.array n e)=>bif Nat.beq off 0&&Nat.beq l.length z&&Nat.beq z (n*sz)&&fO l&&Nat.ble 1 sz&&(E.isAgg e||Nat.beq sz 1) then some { val:=.bot,upd:=[(i,.arr ty sz (chunks sz (E.isAgg e) n l))],conds:=[decide (els.length=n)] } else none
       | _,_=>none
     | _=>none
   | .gq i sz idx off=>match O i with
     | some (.arr ty sz' els)=>bif Nat.beq sz' sz then
        match rQ O v with
        | some (y,u,c)=>
          bif !(u.all fun p=>!(Nat.beq p.1 i)) then none else
          bif Nat.beq off 0&&Nat.beq z sz&&Nat.beq y.cells.length sz&&fO y.cells then some { val:=.bot,upd:=u++[(i,.arr ty sz (els.set idx y))],conds:=decide (idx < els.length)::c }
          else bif Nat.beq y.cells.length z&&fO y.cells then some { val:=.bot,upd:=u++[(i,.arr ty sz (els.set idx (.agg (splice (els.getD idx .aD).cells off y.cells))))],conds:=decide (idx < els.length)::Nat.ble (off+z) (els.getD idx .aD).cells.length::c } else none
        | none=>none
       else none
     | _=>none
   | _=>none
def zk:RV→Bool
 | .ptr _ _=>true
 | .gq _ _ _ _=>true
 | .bf _ _=>true
 | _=>false
def kI (a b:IntKind):Bool:=match a,b with
 | .i8,.i8=>true | .i16,.i16=>true | .i32,.i32=>true | .i64,.i64=>true
 | .u8,.u8=>true | .u16,.u16=>true | .u32,.u32=>true | .u64,.u64=>true
 | _,_=>false
def Yh:Option TypeDesc→DV→DV→Option Bool
 | some (.int _),.int k a,.int k' b=>bif kI k k' then some (a==b) else none
 | some .string,.str a,.str b=>some (a==b)
 | some .bool,.bool a,.bool b=>some (a==b)
 | _,_,_=>none
def iV (E:Env):Nat→List Field→List DV→List DV→Option Bool
 | _,[],[],[]=>some true
 | k,f::fs,a::r,b::q=>bif (f.name != "_")&&Nat.beq f.offset k then
    match Yh (E.und f.type) a b,iV E (k+1) fs r q with
    | some x,some y=>some (x&&y)
    | _,_=>none
   else none
 | _,_,_,_=>none
def bits (op:BinOp) (k:IntKind) (x y:Int):Int:=
 let a:=BitVec.ofInt k.bits x
 let b:=BitVec.ofInt k.bits y
 k.wrap ((match op with
  | .and=>a &&& b
  | .or=>a ||| b
  | .xor=>a ^^^ b
  | _=>a &&& ~~~b).toNat:Int)
def Gr (op:BinOp) (k:IntKind) (a b:Int):Option (DV×List Bool):=
 match op with
 | .add=>some (.int k (k.wrap (a+b)),[])
 | .sub=>some (.int k (k.wrap (a-b)),[])
 | .mul=>some (.int k (k.wrap (a*b)),[])
 | .quo=>some (.int k (k.wrap (a.tdiv b)),[b != 0])
 | .rem=>some (.int k (a.tmod b),[b != 0])
 | .and=>some (.int k (bits .and k a b),[])
 | .or=>some (.int k (bits .or k a b),[])
 | .xor=>some (.int k (bits .xor k a b),[])
 | .andNot=>some (.int k (bits .andNot k a b),[])
 | .eql=>some (.bool (a==b),[])
 | .neq=>some (.bool (a != b),[])
 | .lss=>some (.bool (decide (a < b)),[])
 | .leq=>some (.bool (decide (a≤b)),[])
 | .gtr=>some (.bool (decide (b < a)),[])
 | .geq=>some (.bool (decide (b≤a)),[])
 | _=>none
def Gs (op:BinOp) (a b:List UInt8):Option (DV×List Bool):=
 match op with
 | .add=>some (.str (a++b),[decide (a.length+b.length≤2 ^ 62)])
 | .eql=>some (.bool (a==b),[])
 | .neq=>some (.bool (!(a==b)),[])
 | .lss=>some (.bool (Op.bytesLess a b),[])
 | .leq=>some (.bool (Op.bytesLess a b||a==b),[])
 | .gtr=>some (.bool (!(Op.bytesLess a b||a==b)),[])
 | .geq=>some (.bool (!(Op.bytesLess a b)),[])
 | _=>none
def wB:BinOp→Bool
 | .shl=>true
 | .shr=>true
 | _=>false
def vR (op:BinOp) (b:Bool):Option RV:=
 match op with
 | .eql=>some (.d (.bool b))
 | .neq=>some (.d (.bool (!b)))
 | _=>none
def JK (E:Env) (op:BinOp) (t:Nat) (x y:RV):Option bX:=
 match x,y with
 | .d (.int k a),.d (.int k' b)=>
   bif wB op then
    match op with
    | .shl=>some { val:=.d (.int k (k.wrap (a*2 ^ (min b.toNat k.bits)))),conds:=[decide (0≤b)] }
    | _=>some { val:=.d (.int k (a.fdiv (2 ^ (min b.toNat k.bits)))),conds:=[decide (0≤b)] }
   else bif kI k k' then match Gr op k a b with
    | some (v,c)=>some { val:=.d v,conds:=c }
    | none=>none
   else none
 | .d (.str a),.d (.str b)=>match Gs op a b with
   | some (v,c)=>some { val:=.d v,conds:=c }
   | none=>none
 | .d (.bool a),.d (.bool b)=>match E.und t,vR op (a==b) with
   | some .bool,some v=>some { val:=v }
   | _,_=>none
 | .d (.agg a),.d (.agg b)=>match E.und t with
   | some (.struct fs)=>match iV E 0 fs.toList a b with
     | some r=>bif E.QI t then
        match vR op r with
        | some v=>some { val:=v }
        | none=>none
       else none
     | none=>none
   | _=>none
 | .d .aD,.d .aD=>match E.und t,vR op true with
   | some (.pointer _),some v=>some { val:=v }
   | _,_=>none
 | p,.d .aD=>bif zk p then match E.und t,vR op false with
   | some (.pointer _),some v=>some { val:=v }
   | _,_=>none else none
 | .d .aD,p=>bif zk p then match E.und t,vR op false with
   | some (.pointer _),some v=>some { val:=v }
   | _,_=>none else none
 | .map _,.d .aj=>match E.und t,vR op false with
   | some (.map _ _),some v=>some { val:=v }
   | _,_=>none
 | .d .aj,.d .aj=>match E.und t,vR op true with
   | some (.map _ _),some v=>some { val:=v }
   | _,_=>none
 | _,_=>none
def oU (O:Tab):RV→Option Bool
 | .d (.aL sz els full)=>match els with
   | []=>bif Nat.beq sz 0&&full then some true else none
   | _::_=>some false
 | .own i _=>match O i with
   | some (.arr _ _ (_::_))=>some false
   | some (.jr _ (_::_))=>some false
   | _=>none
 | .sub _ _ _ (_+1)=>some false
 | _=>none
def wN (E:Env) (O:Tab) (op:BinOp) (t:Nat) (x:RV):Option bX:=
 match E.und t,oU O x with
 | some (.slice _),some b=>match vR op b with
   | some v=>some { val:=v }
   | none=>none
 | _,_=>none
def tY (E:Env) (O:Tab) (op:BinOp) (t:Nat) (x y:RV):Option bX:=
 match y with
 | .d (.aL 0 [] true)=>wN E O op t x
 | _=>JK E op t x y
def QJ (op:UnOp) (x:RV):Option bX:=
 match op,x with
 | .not,.d (.bool b)=>some { val:=.d (.bool (!b)) }
 | .neg,.d (.int k n)=>some { val:=.d (.int k (k.wrap (0-n))) }
 | .xor,.d (.int k n)=>some { val:=.d (.int k (bits .xor k (if k.signed then -1 else k.max) n)) }
 | _,_=>none
def kJ (O:Tab):RV→Option (Nat×List DV×List Bool)
 | .d (.aL sz els _)=>some (sz,els,[])
 | .own i sz'=>match O i with
   | some (.arr _ sz els)=>bif Nat.beq sz sz' then some (sz,els,[]) else none
   | some (.jr sz els)=>bif Nat.beq sz sz' then some (sz,els,[]) else none
   | _=>none
 | .sub i sz' off len=>match O i with
   | some (.arr _ sz els)=>bif Nat.beq sz sz' then some (sz,(els.drop off).take len,[decide (off+len≤els.length)]) else none
   | some (.jr sz els)=>bif Nat.beq sz sz' then some (sz,(els.drop off).take len,[decide (off+len≤els.length)]) else none
   | _=>none
 | _=>none
def iW (s:List UInt8):List DV:=s.map fun b=>.int .u8 b.toNat
def DV.isByte:DV→Bool
 | .int .u8 _=>true
 | _=>false
def qj:Option TypeDesc→Bool
 | some (.int .u8)=>true
 | _=>false
def tZ (E:Env) (O:Tab) (sl src dst:Nat) (x:RV):Option bX:=
 match E.und src,E.und dst,x with
 | some _,some (.int k),.d (.int _ n)=>some { val:=.d (.int k (k.wrap n)) }
 | some _,some .string,.d (.str s)=>some { val:=.d (.str s) }
 | some _,some (.slice e),.d (.str s)=>bif qj (E.und e) then
    match O sl,E.size e with
    | none,some 1=>some { val:=.own sl 1,upd:=[(sl,.arr e 1 (iW s))] }
    | _,_=>none
   else none
 | some (.slice e),some .string,v=>bif qj (E.und e) then
    match kJ O v with
    | some (sz,els,c)=>bif Nat.beq sz 1||els.isEmpty then some { val:=.d (.str (els.map DV.byte)),conds:=c++[els.all DV.isByte] } else none
    | none=>none
   else none
 | _,_,_=>none
def nX : Option RV→Option (Option Int)
 | none=>some none
 | some (.d (.int _ n))=>some (some n)
 | _=>none
def vS (len:Nat):Option Int→Option Int→List Bool
 | none,none=>[]
 | none,some h=>[decide (0≤h∧h≤(len:Int))]
 | some l,none=>[decide (0≤l∧l≤(len:Int))]
 | some l,some h=>[decide (0≤h∧h≤(len:Int)),decide (0≤l∧l≤((h.toNat:Nat):Int))]
def rR {α:Type} (s:List α) (lo hi:Option Int):List α:=
 match lo,hi with
 | none,none=>s
 | some l,none=>s.drop l.toNat
 | none,some h=>s.take h.toNat
 | some l,some h=>(s.take h.toNat).drop l.toNat
def bF:Option Int→Nat
 | none=>0
 | some l=>l.toNat
def dw (len:Nat):Option Int→Nat
 | none=>len
 | some h=>h.toNat
def oV (E:Env) (O:Tab) (t:Nat) (x:RV) (lo hi mx:Option RV):Option bX:=
 match nX lo,nX hi,mx with
 | some l,some h,none=>
   match E.und t,x with
   | some .string,.d (.str s)=>some { val:=.d (.str (rR s l h)),conds:=vS s.length l h }
   | some (.slice e),.d (.aL sz els full)=>match E.size e with
     | some z=>bif Nat.beq sz z||els.isEmpty then some { val:=.d (.aL sz (rR els l h) (match h with | none=>full | some _=>false)),conds:=vS els.length l h } else none
     | none=>none
   | some (.slice e),.own i sz=>match O i,E.size e with
     | some (.arr _ sz' els),some z=>bif Nat.beq sz' sz&&Nat.beq sz z then some { val:=.sub i sz (bF l) (dw els.length h-bF l),conds:=vS els.length l h } else none
     | some (.jr sz' els),some z=>bif Nat.beq sz' sz&&Nat.beq sz z then some { val:=.sub i sz (bF l) (dw els.length h-bF l),conds:=vS els.length l h } else none
     | _,_=>none
   | some (.slice e),.sub i sz off len=>match E.size e with
     | some z=>bif Nat.beq sz z then some { val:=.sub i sz (off+bF l) (dw len h-bF l),conds:=vS len l h } else none
     | none=>none
   | some (.array n e),.ptr i off=>match O i,E.size e with
     | some (.arr _ sz els),some z=>bif Nat.beq sz z&&Nat.beq off 0 then some { val:=.sub i sz (bF l) (dw n h-bF l),conds:=decide (els.length=n)::vS n l h } else none
     | _,_=>none
   | _,_=>none
 | some none,some (some h),some (.d (.int _ m))=>
   match E.und t,x with
   | some (.slice e),.d (.aL sz els full)=>match E.size e with
     | some z=>bif (Nat.beq sz z||els.isEmpty)&&(Nat.ble 1 sz||full) then some { val:=.d (.aL sz (els.take h.toNat) (decide (h=m))),conds:=[decide (0≤h∧h≤m),decide (m≤els.length)] } else none
     | none=>none
   | _,_=>none
 | _,_,_=>none
def nY (E:Env) (t:Nat) (x:RV) (f:Nat):Option bX:=
 match E.und t with
 | some (.struct fs)=>match iU E fs f with
   | some (off,n)=>bif Nat.ble 1 n then
      match x with
      | .ptr i o=>some { val:=.ptr i (o+off) }
      | .gq i sz idx o=>some { val:=.gq i sz idx (o+off) }
      | .bf y o=>some { val:=.bf y (o+off) }
      | _=>none
     else none
   | none=>none
 | _=>none
def AA (E:Env) (t:Nat) (x:RV) (f:Nat):Option bX:=
 match E.und t with
 | some (.struct fs)=>match fs[f]? with
   | some fl=>match E.size fl.type with
     | some z=>match x with
       | .d (.agg cs)=>match cut E fl.type z cs fl.offset with
         | some y=>some { val:=.d y }
         | none=>none
       | .agg cs=>bif Nat.ble (fl.offset+z) cs.length then
          bif E.isAgg fl.type then some { val:=qz ((cs.drop fl.offset).take z) } else bif Nat.beq z 1 then some { val:=cs.getD fl.offset .bot } else none
         else none
       | _=>none
     | none=>none
   | none=>none
 | _=>none
def iX (E:Env) (O:Tab) (t:Nat) (x i:RV):Option bX:=
 match i with
 | .d (.int _ n)=>
   match E.und t,x with
   | some (.slice e),.d (.aL sz els _)=>match E.size e with
     | some z=>bif Nat.beq sz z then some { val:=.bf (els.getD n.toNat .aD) 0,conds:=[decide (0≤n∧n < (els.length:Int))] } else none
     | none=>none
   | some (.slice e),.own k sz=>match O k,E.size e with
     | some (.arr _ sz' els),some z=>bif Nat.beq sz' sz&&Nat.beq sz z then some { val:=.gq k sz n.toNat 0,conds:=[decide (0≤n∧n < (els.length:Int))] } else none
     | some (.jr sz' els),some z=>bif Nat.beq sz' sz&&Nat.beq sz z then some { val:=.gq k sz n.toNat 0,conds:=[decide (0≤n∧n < (els.length:Int))] } else none
     | _,_=>none
   | some (.slice e),.sub k sz off len=>match E.size e with
     | some z=>bif Nat.beq sz z then some { val:=.gq k sz (off+n.toNat) 0,conds:=[decide (0≤n∧n < (len:Int))] } else none
     | none=>none
   | some (.array len e),.ptr k off=>match O k,E.size e with
     | some (.arr _ sz _),some z=>bif Nat.beq sz z&&Nat.beq off 0 then some { val:=.gq k sz n.toNat 0,conds:=[decide (0≤n∧n < (len:Int))] } else none
     | some (.box _ _),some z=>some { val:=.ptr k (off+n.toNat*z),conds:=[decide (0≤n∧n < (len:Int))] }
     | _,_=>none
   | _,_=>none
 | _=>none
def AB (E:Env) (t:Nat) (x i:RV):Option bX:=
 match i with
 | .d (.int _ n)=>
   match E.und t,x with
   | some .string,.d (.str s)=>some { val:=.d (.int .u8 ((s.getD n.toNat 0).toNat:Int)),conds:=[decide (0≤n∧n < (s.length:Int))] }
   | some (.array len e),.d (.agg cs)=>match E.size e with
     | some z=>match cut E e z cs (n.toNat*z) with
       | some y=>some { val:=.d y,conds:=[decide (0≤n∧n < (len:Int))] }
       | none=>none
     | none=>none
   | some (.array len e),.agg cs=>match E.size e with
     | some z=>bif Nat.ble (n.toNat*z+z) cs.length then
        bif E.isAgg e then some { val:=qz ((cs.drop (n.toNat*z)).take z),conds:=[decide (0≤n∧n < (len:Int))] }
        else bif Nat.beq z 1 then some { val:=cs.getD (n.toNat*z) .bot,conds:=[decide (0≤n∧n < (len:Int))] } else none
       else none
     | none=>none
   | _,_=>none
 | _=>none
def uf (x:RV) (i:Nat):Option bX:=
 match x with
 | .bI vs=>match vs[i]? with
   | some v=>some { val:=v }
   | none=>none
 | .d (.bI vs)=>match vs[i]? with
   | some v=>some { val:=.d v }
   | none=>none
 | _=>none
def zl (E:Env) (O:Tab) (t:Nat) (x:RV):Option bX:=
 match E.und t,x with
 | some .string,.d (.str s)=>some { val:=.d (.int .i64 (s.length:Int)) }
 | some (.slice _),.d (.aL _ els _)=>some { val:=.d (.int .i64 (els.length:Int)) }
 | some (.slice _),.own i _=>match O i with
   | some (.arr _ _ els)=>some { val:=.d (.int .i64 (els.length:Int)) }
   | some (.jr _ els)=>some { val:=.d (.int .i64 (els.length:Int)) }
   | _=>none
 | some (.slice _),.sub _ _ _ len=>some { val:=.d (.int .i64 (len:Int)) }
 | some (.array n _),_=>some { val:=.d (.int .i64 (n:Int)) }
 | some (.map _ _),.d .aj=>some { val:=.d (.int .i64 0) }
 | some (.map _ _),.map i=>match O i with
   | some (.map es)=>some { val:=.d (.int .i64 (es.length:Int)) }
   | _=>none
 | _,_=>none
def lN (O:Tab) (x:RV):Option (Nat×List DV×List Bool):=
 match x with
 | .d (.str s)=>some (1,iW s,[])
 | v=>kJ O v
def lQ (E:Env) (e z:Nat):Bool:=
 match E.zero e with
 | some x=>Nat.beq x.cells.length z
 | none=>false
def mo (E:Env) (O:Tab) (sl t:Nat) (s x:RV):Option bX:=
 match E.und t with
 | some (.slice e)=>match E.size e,E.bytes e,lN O x with
   | some z,some iA,some (sx,xs,cx)=>
     bif (Nat.beq sx z||xs.isEmpty)&&Nat.ble 1 z&&Nat.ble 1 iA&&lQ E e z then
      match s with
      | .d (.aL sz els true)=>
        bif Nat.beq sz z||els.isEmpty then
         match O sl with
         | none=>some { val:=.own sl z,upd:=[(sl,.arr e z (els++xs))],conds:=cx++[decide ((els.length+xs.length)*iA≤2 ^ 38),els.isEmpty || !xs.isEmpty] }
         | some _=>none
        else none
      | .own i sz=>bif Nat.beq sz z then match O i with
         | some (.arr ty sz' els)=>bif Nat.beq sz' sz&&Nat.beq ty e then
            match O (bif Nat.beq i sl then sl+1 else sl) with
            | none=>some { val:=.own (bif Nat.beq i sl then sl+1 else sl) z,upd:=[(i,.gone),(bif Nat.beq i sl then sl+1 else sl,.arr e z (els++xs))],conds:=cx++[decide ((els.length+xs.length)*iA≤2 ^ 38)] }
            | some _=>none
           else none
         | _=>none else none
      | .sub i sz off len=>bif Nat.beq sz z&&Nat.beq off 0 then match O i with
         | some (.arr ty sz' els)=>bif Nat.beq sz' sz&&Nat.beq ty e then
            match O (bif Nat.beq i sl then sl+1 else sl) with
            | none=>some { val:=.own (bif Nat.beq i sl then sl+1 else sl) z,upd:=[(i,.gone),(bif Nat.beq i sl then sl+1 else sl,.arr e z (els.take len++xs))],conds:=cx++[decide ((len+xs.length)*iA≤2 ^ 38),decide (len≤els.length)] }
            | some _=>none
           else none
         | _=>none else none
      | _=>none
     else none
   | _,_,_=>none
 | _=>none
def rT (mn:Bool) (x y:RV):Option bX:=
 match x,y with
 | .d (.int k a),.d (.int _ b)=>some { val:=.d (.int k (bif mn then (if b < a then b else a) else (if b > a then b else a))) }
 | _,_=>none
def kZ (E:Env) (O:Tab) (sl t:Nat) (len cap:RV):Option bX:=
 match E.und t,len,cap with
 | some (.slice e),.d (.int _ n),.d (.int _ m)=>match O sl,E.size e,E.bytes e,E.zero e with
   | none,some z,some iA,some x=>bif Nat.ble 1 z&&Nat.ble 1 iA&&Nat.beq x.cells.length z&&fO x.cells then
      some { val:=.own sl z,upd:=[(sl,.arr e z (List.replicate n.toNat x))],conds:=[decide (0≤n∧n≤m),decide ((iA:Int)*m≤2 ^ 38)] } else none
   | _,_,_,_=>none
 | _,_,_=>none
end Go.Am
namespace Go.Am
set_option linter.unusedSectionVars false
variable {P:Program} [Gl]
theorem gy (b o i:Nat):(⟨b,o,none⟩:Addr).add i=⟨b,o+i,none⟩:=by unfold Addr.add;split<;>simp_all
theorem oW {w:World} {b o:Nat} {c:Array Value} {ty:TypeId} {fz:Nat×Nat} (hb:w.heap[b]? = some (.cells c ty fz)) :
 w.cell? ⟨b,o,none⟩=c[o]?:=by simp [World.cell?,hb]
theorem dH {w:World} {b o n:Nat} {c:Array Value} {ty:TypeId} {fz:Nat×Nat} (hb:w.heap[b]? = some (.cells c ty fz))
 (hn:o+n≤c.size):(loadCells ⟨b,o,none⟩ n).run P w = .ok (c.extract o (o+n)) w:=by
 rw [run_loadCells w ⟨b,o,none⟩ n (fun j=>c.getD (o+j) undef) (fun j hj=>by
  rw [gy,oW hb]
  have:o+j < c.size:=by omega
  simp [Array.getD,this])]
 congr 1;apply Array.ext
 ·simp;omega
 ·intro i h1 h2;simp at h1
  have:o+i < c.size:=by omega
  simp [Array.getD,this]
def dV (c:Array Value) (o:Nat) (vs:List Value):Array Value:=(splice c.toList o vs).toArray
theorem fJ {α:Type} (cs:List α) (o:Nat) (vs:List α) (h:o+vs.length≤cs.length):(splice cs o vs).length=cs.length:=by
 simp [splice];omega
theorem dI (c:Array Value) (o:Nat) (vs:List Value) (h:o+vs.length≤c.size):(dV c o vs).size=c.size:=by
 simp only [dV,List.size_toArray];rw [fJ _ _ _ (by simpa using h)];simp
theorem iO {α:Type} (cs:List α) (o:Nat) (vs:List α) (h:o+vs.length≤cs.length) (j:Nat) :
 (splice cs o vs)[j]? = if j < o then cs[j]? else if j < o+vs.length then vs[j-o]? else cs[j]?:=by
 unfold splice;by_cases h1:j < o
 ·rw [if_pos h1,List.append_assoc,List.getElem?_append_left (by simp;omega),List.getElem?_take,if_pos h1]
 ·rw [if_neg h1,List.append_assoc,List.getElem?_append_right (by simp;omega)];have e:(cs.take o).length=o:=by simp;omega
  rw [e];by_cases h2:j < o+vs.length
  ·rw [if_pos h2,List.getElem?_append_left (by omega)]
  ·rw [if_neg h2,List.getElem?_append_right (by omega),List.getElem?_drop];congr 1;omega
theorem gQ (c:Array Value) (o:Nat) (vs:List Value) (h:o+vs.length≤c.size) (j:Nat) :
 (dV c o vs)[j]? = if j < o then c[j]? else if j < o+vs.length then vs[j-o]? else c[j]?:=by
 simp only [dV,List.getElem?_toArray];rw [iO _ _ _ (by simpa using h)];simp
theorem vg {α:Type} (cs:List α) (o:Nat) (v:α) (r:List α) (h:o+(v::r).length≤cs.length) :
 splice (cs.set o v) (o+1) r=splice cs o (v::r):=by
 apply List.ext_getElem?;intro j;rw [iO _ _ _ (by simp at h ⊢;omega),iO _ _ _ h];simp only [List.length_cons] at h ⊢;by_cases h1:j < o
 ·rw [if_pos (by omega),if_pos h1,List.getElem?_set_ne (by omega)]
 ·by_cases h2:j=o
  ·subst h2;rw [if_pos (by omega),if_neg (by omega),if_pos (by omega),List.getElem?_set_self (by omega)];simp
  ·rw [if_neg (by omega),if_neg h1];by_cases h3:j < o+1+r.length
   ·rw [if_pos h3,if_pos (by omega)]
    have:j-o=(j-(o+1))+1:=by omega
    rw [this];rfl
   ·rw [if_neg h3,if_neg (by omega),List.getElem?_set_ne (by omega)]
theorem CK (v:Value):v.oneCell'=v.oneCell:=by cases v<;>rfl
def World.row (w:World) (b:Nat) (o:Obj):World:={ w with heap:=w.heap.setIfInBounds b o }
theorem JL {w:World} {b:Nat} {o:Obj} (h:w.heap[b]? = some o):World.row w b o=w:=by
 unfold World.row
 have:w.heap.setIfInBounds b o=w.heap:=by
  apply Array.ext_getElem?;intro j;rw [Array.getElem?_setIfInBounds];split
  ·rename_i e;subst e
   have hb:b < w.heap.size:=by
    rcases Nat.lt_or_ge b w.heap.size with h' | h'
    ·exact h'
    ·rw [Array.getElem?_eq_none h'] at h;simp at h
   have hg:w.heap[b]=o:=by rw [Array.getElem?_eq_getElem hb] at h;simpa using h
   simp [hb,hg]
  ·rfl
 rw [this]
theorem NI (w:World) (b:Nat) (o o' : Obj):World.row (World.row w b o) b o'=World.row w b o':=by
 unfold World.row;simp only [World.mk.injEq,and_true];apply Array.ext_getElem?;intro j;simp only [Array.getElem?_setIfInBounds,Array.size_setIfInBounds]
 split<;>simp_all
theorem dx {w:World} {b:Nat} {o o0:Obj} (h:w.heap[b]? = some o0):(World.row w b o).heap[b]? = some o:=by
 have hb:b < w.heap.size:=by
  rcases Nat.lt_or_ge b w.heap.size with h' | h'
  ·exact h'
  ·rw [Array.getElem?_eq_none h'] at h;simp at h
 simp [World.row,hb]
theorem gT (w:World) {b b' : Nat} (o:Obj) (h:b'≠b):(World.row w b o).heap[b']? = w.heap[b']?:=by
 simp only [World.row,Array.getElem?_setIfInBounds];rw [if_neg (by omega)]
theorem lg {w:World} {b o:Nat} {c:Array Value} {ty:TypeId} {fz:Nat×Nat} (hb:w.heap[b]? = some (.cells c ty fz)) (v:Value) :
 w.setCell ⟨b,o,none⟩ v=World.row w b (.cells (c.setIfInBounds o v) ty fz):=by
 unfold World.setCell World.row;simp only [World.mk.injEq,and_true];apply Array.ext_getElem?;intro j;rw [Array.getElem?_modify,Array.getElem?_setIfInBounds];by_cases e:b=j
 ·subst e
  have hlt:b < w.heap.size:=by
   rcases Nat.lt_or_ge b w.heap.size with h' | h'
   ·exact h'
   ·rw [Array.getElem?_eq_none h'] at hb;simp at hb
  have hg:w.heap[b] = .cells c ty fz:=by rw [Array.getElem?_eq_getElem hlt] at hb;simpa using hb
  simp [hlt,hg]
 ·simp [e]
theorem dh (b o:Nat) (ty:TypeId) (fz:Nat×Nat):∀(vs:List Value) (i:Nat) (c:Array Value) (w:World),w.heap[b]? = some (.cells c ty fz)→
 tV fz c.size→o+i+vs.length≤c.size→(∀v∈vs,v.oneCell=true)→
 (storeCells ⟨b,o,none⟩ vs i).run P w = .ok () (World.row w b (.cells (dV c (o+i) vs) ty fz))
 | [],i,c,w,hb,_,_,_=>by
   simp only [storeCells,Sem.run_pure];rw [JL];rw [hb];simp [dV,splice]
 | v::r,i,c,w,hb,hz,hl,h1=>by
   have hi:o+i < c.size:=by simp at hl;omega
   have hfro:w.frozen? ⟨b,o+i,none⟩=false:=by
    have:=hz (o+i) hi
    simp only [World.frozen?,hb,Bool.and_eq_false_iff,decide_eq_false_iff_not];omega
   have hst:(store ((⟨b,o,none⟩:Addr).add i) v).run P w = .ok () (World.row w b (.cells (c.setIfInBounds (o+i) v) ty fz)):=by
    rw [gy,run_store P w _ v _ (by rw [CK];exact h1 v (by simp)),oW hb];simp [hi,hfro,lg hb]
   have ih:=dh b o ty fz r (i+1) (c.setIfInBounds (o+i) v) (World.row w b (.cells (c.setIfInBounds (o+i) v) ty fz)) (dx hb) (by simpa using hz) (by simp at hl ⊢;omega) (fun x hx=>h1 x (by simp [hx]));simp only [storeCells,Sem.run_bind,hst,Result.andThen_ok,ih,NI];congr 3;unfold dV;rw [Array.toList_setIfInBounds,←Nat.add_assoc];rw [vg _ _ _ _ (by simpa using hl)]
theorem zm {E:Env} (hE:E=Env.of P) {t:TypeId} {d:TypeDesc} (h:P.underlying t=some d) (w:World) :
 (isAgg t).run P w = .ok (E.isAgg t) w:=by
 subst hE
 have e:(Env.of P).isAgg t=(match d with | .struct _ | .array _ _=>true | _=>false):=by
  simp only [Env.isAgg,Env.of,h];cases d<;>rfl
 rw [e];simp only [isAgg,Sem.run_bind,run_underlying h,Result.andThen_ok];cases d<;>rfl
theorem wC {t z:Nat} (h:(Env.of P).size t=some z):∃i d,P.info? t=some i∧i.size=z∧P.underlying t=some d:=by
 simp only [Env.of] at h;cases e:P.info? t with
 | none=>rw [e] at h;cases e2:P.underlying t<;>rw [e2] at h<;>simp at h
 | some i=>
   cases e2:P.underlying t with
   | none=>rw [e,e2] at h;simp at h
   | some d=>rw [e,e2] at h;exact ⟨i,d,rfl,by simpa using h,rfl⟩
theorem aV {t z:Nat} (h:(Env.of P).size t=some z) (w:World):(sizeOf t).run P w = .ok z w:=by
 obtain ⟨i,d,hi,rfl,_⟩:=wC h;simp [sizeOf,typeInfo,hi]
theorem wO {t z:Nat} (h:(Env.of P).size t=some z) (w:World):(isAgg t).run P w = .ok ((Env.of P).isAgg t) w:=by
 obtain ⟨i,d,hi,rfl,hd⟩:=wC h;exact zm rfl hd w
theorem aF {t:Nat} {d:TypeDesc} (h:(Env.of P).und t=some d) (w:World):(underlying t).run P w = .ok d w:=run_underlying h w
theorem wQ {w:World} {t z b o:Nat} {c:Array Value} {ty:TypeId} {fz:Nat×Nat} (hz:(Env.of P).size t=some z) (hb:w.heap[b]? = some (.cells c ty fz))
 (hn:o+z≤c.size) (h1:(Env.of P).isAgg t=false→z=1) :
 (loadVar t ⟨b,o,none⟩).run P w = .ok (if (Env.of P).isAgg t then .agg (c.extract o (o+z)) else c.getD o undef) w:=by
 simp only [loadVar,Sem.run_bind,wO hz,Result.andThen_ok];cases e:(Env.of P).isAgg t with
 | true=>simp [aV hz,dH hb hn]
 | false=>
   have:=h1 e;subst this
   have:o < c.size:=by omega
   simp [oW hb,this,Array.getD]
theorem vT {w:World} {t z b o:Nat} {c:Array Value} {ty:TypeId} {fz:Nat×Nat} {v:Value} (hz:(Env.of P).size t=some z) (hb:w.heap[b]? = some (.cells c ty fz))
 (hf:tV fz c.size) (hv:v.cells.size=z) (hn:o+z≤c.size) (h1:∀x∈v.cells,x.oneCell=true) :
 (storeVar t ⟨b,o,none⟩ v).run P w = .ok () (World.row w b (.cells (dV c o v.cells.toList) ty fz)):=by
 have:=dh (P:=P) b o ty fz v.cells.toList 0 c w hb hf (by simpa [hv] using hn) (by simpa using h1)
 simp only [storeVar,Sem.run_bind,aV hz,Result.andThen_ok,hv,ne_eq,not_true_eq_false,if_false];simpa using this
def bq (O:Tab) (i:Nat) (p:Option au):Tab:=fun j=>if j=i then p else O j
def aQ (O:Tab) (u:List (Nat×au)):Tab:=u.foldl (fun O p=>bq O p.1 (some p.2)) O
def iP (R:Nat→RV) (d:Nat) (v:RV):Nat→RV:=fun t=>if t=d then v else R t
theorem bE (O:Tab) (i:Nat) (p:Option au):bq O i p i=p:=by simp [bq]
theorem dD (O:Tab) {i j:Nat} (p:Option au) (h:j≠i):bq O i p j=O j:=by simp [bq,h]
theorem wR (a:Act) (d t:Nat) (v:Value):(a.put (some d) v).tmps.getD t undef=if t=d∧d < a.tmps.size then v else a.tmps.getD t undef:=by
 simp only [Act.put,Array.getD_eq_getD_getElem?,Array.getElem?_setIfInBounds];by_cases h:d=t
 ·subst h;by_cases h2:d < a.tmps.size
  ·simp [h2]
  ·simp [h2]
 ·have:¬t=d:=fun e=>h e.symm
  simp [h,this]
theorem av.put {κ:bn} {φ:bG} {w:World} {s:bP} {a:Act} (F:av κ φ w s a) {d:Nat} {rv:RV} {v:Value} (hd:d < s.n)
 (hr:bB κ φ s.O w.heap rv v):av κ φ w { s with R:=iP s.R d rv } (a.put (some d) v) where
 regs:=fun t=>by
  rw [wR];by_cases h:t=d
  ·subst h;simp only [iP,if_true];rw [if_pos ⟨trivial,by rw [F.n];exact hd⟩];exact hr
  ·rw [if_neg (fun e=>h e.1)];simp only [iP,if_neg h];exact F.regs t
 objs:=F.objs
 bnd:=F.bnd
 n:=by simpa [Act.put] using F.n
 df:=F.df
theorem av.wD {κ:bn} {φ:bG} {w:World} {s:bP} {a:Act} (F:av κ φ w s a) (v:Value):av κ φ w s (a.put none v):=F
theorem av.weak {κ:bn} {φ:bG} {w:World} {s:bP} {a:Act} (F:av κ φ w s a) {R' : Nat→RV}
 (h:∀t,∀v,bB κ φ s.O w.heap (s.R t) v→bB κ φ s.O w.heap (R' t) v):av κ φ w { s with R:=R' } a:=
 { F with regs:=fun t=>h t _ (F.regs t) }
theorem av.vU {κ:bn} {φ:bG} {w:World} {s:bP} {a:Act} (F:av κ φ w s a) {i:Nat} {p:au} {κ' : bn} {φ' : bG} {w' : World}
 (hsz:w.heap.size≤w'.heap.size)
 (iE:∀b,κ b = .dA→κ' b = .dA)
 (hown:∀b j,j≠i→s.O j≠some .gone→κ b = .own j→κ' b = .own j)
 (hoth:∀b,b < w.heap.size→κ b = .kr→κ' b = .kr)
 (hh:∀b,b < w.heap.size→κ b≠.own i→(∀j,κ b = .own j→s.O j≠some .gone)→w'.heap[b]? = w.heap[b]?)
 (hφ:∀j,j≠i→φ' j=φ j) (hφi:φ i≠.un→φ' i=φ i)
 (NJ:∀(b:Nat) (c:Array Value) (ty:TypeId) (fz:Nat×Nat),w.heap[b]? = some (.cells c ty fz)→∃c' tL,w'.heap[b]? = some (.cells c' ty tL)∧c'.size=c.size)
 (hlen:φ i≠.un→∀n,au.cB (some p)=some n→au.cB (s.O i)=some n)
 (Yv:∀b,κ' b≠.kr→b < w'.heap.size)
 (hnew:dG κ φ s.O w.heap κ' φ' (bq s.O i (some p)) w'.heap→OR κ' φ' (bq s.O i (some p)) w'.heap i (some p))
 (hso:w'.os=w.os∧w'.output=w.output:=by exact ⟨rfl,rfl⟩) :
 av κ' φ' w' { s with O:=bq s.O i (some p) } a∧dG κ φ s.O w.heap κ' φ' (bq s.O i (some p)) w'.heap∧Fr κ w κ' w':=by
 have Qb : ∀b,κ b = .dA→κ' b = .dA∧w'.heap[b]? = w.heap[b]?:=fun b hb=>
  ⟨iE b hb,hh b (F.bnd.lt b (by rw [hb];simp)) (by rw [hb];simp) (by rw [hb];simp)⟩
 have M:dG κ φ s.O w.heap κ' φ' (bq s.O i (some p)) w'.heap:=
  { dA:=Qb
    wu:=NJ
    phi:=fun j hj=>by
     by_cases e:j=i
     ·subst e;exact hφi hj
     ·exact hφ j e
    len:=fun j n hj hn=>by
     by_cases e:j=i
     ·subst e;rw [bE] at hn;exact hlen hj n hn
     ·rw [dD _ _ e] at hn;exact hn }
 have hfr:Fr κ w κ' w':=⟨hsz,Qb,fun b hb ho=>⟨hoth b hb ho,hh b hb (by rw [ho];simp) (by rw [ho];simp)⟩,NJ,hso.1,hso.2⟩;refine ⟨⟨fun t=>(F.regs t).mono M,fun j=>?_,F.bnd.step hfr Yv,F.n,F.df.mono M⟩,M,hfr⟩;by_cases e:j=i
 ·subst e;simp only [bE];exact hnew M
 ·simp only [dD _ _ e];by_cases hg:s.O j=some .gone
  ·rw [hg];exact trivial
  ·refine (F.objs j).mono M (fun b hb=>⟨hown b j e hg hb,?_⟩) (hφ j e);exact hh b (F.bnd.lt b (by rw [hb];simp)) (by rw [hb];simpa using e) (fun k hk=>by rw [hb] at hk;injection hk with hk;subst hk;exact hg)
def ql (κ:bn) (b:Nat) (c:Cls):bn:=fun x=>if x=b then c else κ x
def gU (φ:bG) (i:Nat) (b:Yf):bG:=fun j=>if j=i then b else φ j
theorem bR (κ:bn) (b:Nat) (c:Cls):ql κ b c b=c:=by simp [ql]
theorem fD (κ:bn) {b x:Nat} (c:Cls) (h:x≠b):ql κ b c x=κ x:=by simp [ql,h]
theorem aM (φ:bG) (i:Nat) (b:Yf):gU φ i b i=b:=by simp [gU]
theorem lq (φ:bG) {i j:Nat} (b:Yf) (h:j≠i):gU φ i b j=φ j:=by simp [gU,h]
theorem dz {h:Heap} {o:Obj} {b:Nat} (hb:b < h.size):(h.push o)[b]? = h[b]?:=by
 rw [Array.getElem?_push_lt hb];simp [hb]
theorem aO (h:Heap) (o:Obj):(h.push o)[h.size]? = some o:=by simp
theorem iY {h:Heap} {b:Nat} {o:Obj} (e:h[b]? = some o):b < h.size:=by
 rcases Nat.lt_or_ge b h.size with h' | h'
 ·exact h'
 ·rw [Array.getElem?_eq_none h'] at e;simp at e
theorem av.alloc {κ:bn} {φ:bG} {w:World} {s:bP} {a:Act} (F:av κ φ w s a) {i:Nat} {p:au} {o:Obj} {w' : World}
 (hw:w'.heap=w.heap.push o) (hi:s.O i=none)
 (hnew:dG κ φ s.O w.heap (ql κ w.heap.size (.own i)) (gU φ i (.at w.heap.size)) (bq s.O i (some p)) w'.heap→
   OR (ql κ w.heap.size (.own i)) (gU φ i (.at w.heap.size)) (bq s.O i (some p)) w'.heap i (some p))
 (hso:w'.os=w.os∧w'.output=w.output:=by exact ⟨rfl,rfl⟩) :
 av (ql κ w.heap.size (.own i)) (gU φ i (.at w.heap.size)) w' { s with O:=bq s.O i (some p) } a∧
  dG κ φ s.O w.heap (ql κ w.heap.size (.own i)) (gU φ i (.at w.heap.size)) (bq s.O i (some p)) w'.heap∧
  Fr κ w (ql κ w.heap.size (.own i)) w':=by
 have hun:φ i = .un:=by have:=F.objs i;rw [hi] at this;exact this
 refine F.vU (by rw [hw];simp) (fun b hb=>?_) (fun b j _ _ hb=>?_) (fun b hb ho=>?_) (fun b hb _ _=>?_) (fun j hj=>lq _ _ hj) (fun h=>absurd hun h) (fun b c ty fz hc=>?_) (fun h=>absurd hun h) (fun b hb=>?_) hnew hso
 ·rw [fD _ _ (by have:=F.bnd.lt b (by rw [hb];simp);omega)];exact hb
 ·rw [fD _ _ (by have:=F.bnd.lt b (by rw [hb];simp);omega)];exact hb
 ·rw [fD _ _ (by omega)];exact ho
 ·rw [hw,dz hb]
 ·exact ⟨c,fz,by rw [hw,dz (iY hc)];exact hc,rfl⟩
 ·rw [hw];simp only [Array.size_push];by_cases e:b=w.heap.size
  ·omega
  ·rw [fD _ _ e] at hb;have:=F.bnd.lt b hb;omega
theorem av.write {κ:bn} {φ:bG} {w:World} {s:bP} {a:Act} (F:av κ φ w s a) {i:Nat} {p:au} {b:Nat} {o:Obj}
 (hκ:κ b = .own i) (hφi:φ i = .at b)
 (NJ:∀(c:Array Value) (ty:TypeId) (fz:Nat×Nat),w.heap[b]? = some (.cells c ty fz)→∃c' tL,o = .cells c' ty tL∧c'.size=c.size)
 (hlen:∀n,au.cB (some p)=some n→au.cB (s.O i)=some n)
 (hnew:dG κ φ s.O w.heap κ φ (bq s.O i (some p)) (World.row w b o).heap→OR κ φ (bq s.O i (some p)) (World.row w b o).heap i (some p)) :
 av κ φ (World.row w b o) { s with O:=bq s.O i (some p) } a∧dG κ φ s.O w.heap κ φ (bq s.O i (some p)) (World.row w b o).heap∧Fr κ w κ (World.row w b o):=by
 have hsz:(World.row w b o).heap.size=w.heap.size:=by simp [World.row]
 refine F.vU (by omega) (fun _ h=>h) (fun _ _ _ _ h=>h) (fun _ _ h=>h) (fun b' hb' hne _=>?_) (fun _ _=>rfl) (fun _=>rfl) (fun b' c ty fz hc=>?_) (fun _=>hlen) (fun b' hb'=>by rw [hsz];exact F.bnd.lt b' hb') hnew
 ·by_cases e:b'=b
  ·subst e;exact absurd hκ hne
  ·exact gT w o e
 ·by_cases e:b'=b
  ·subst e;obtain ⟨c',tL,h1,h2⟩:=NJ c ty fz hc;exact ⟨c',tL,by rw [dx hc,h1],h2⟩
  ·exact ⟨c,fz,by rw [gT w o e];exact hc,rfl⟩
theorem av.freeze {κ:bn} {φ:bG} {w:World} {s:bP} {a:Act} (F:av κ φ w s a) {i ty sz:Nat} {els:List DV} (hi:s.O i=some (.arr ty sz els)) :
 ∃κ',av κ' φ w { s with O:=bq s.O i (some (.jr sz els)) } a∧dG κ φ s.O w.heap κ' φ (bq s.O i (some (.jr sz els))) w.heap∧Fr κ w κ' w:=by
 have ho:=F.objs i;rw [hi] at ho;rcases ho with ⟨h1,h2⟩ | ⟨b,c,fz,h1,h2,h3,h4,h5⟩
 ·refine ⟨κ,F.vU (Nat.le_refl _) (fun _ h=>h) (fun _ _ _ _ h=>h) (fun _ _ h=>h) (fun _ _ _ _=>rfl) (fun _ _=>rfl) (fun _=>rfl) (fun _ c _ fz hc=>⟨c,fz,hc,rfl⟩) (fun _ n hn=>?_) F.bnd.lt (fun _=>.inl ⟨h1,h2⟩)⟩;rw [hi];exact hn
 ·refine ⟨ql κ b .dA,F.vU (Nat.le_refl _) (fun x hx=>?_) (fun x j hj _ hx=>?_) (fun x _ hx=>?_) (fun _ _ _ _=>rfl) (fun _ _=>rfl) (fun _=>rfl) (fun _ c _ fz hc=>⟨c,fz,hc,rfl⟩) (fun _ n hn=>?_) (fun x hx=>?_) (fun M=>.inr ⟨b,c,ty,fz,h1,bR _ _ _,h3,h5.mono M.dA⟩)⟩
  ·by_cases e:x=b
   ·subst e;exact bR _ _ _
   ·rw [fD _ _ e];exact hx
  ·rw [fD _ _ (fun e=>by subst e;rw [h2] at hx;injection hx with hx;exact hj hx.symm)];exact hx
  ·rw [fD _ _ (fun e=>by subst e;rw [h2] at hx;cases hx)];exact hx
  ·rw [hi];exact hn
  ·by_cases e:x=b
   ·subst e;exact iY h3
   ·rw [fD _ _ e] at hx;exact F.bnd.lt x hx
theorem av.gone {κ:bn} {φ:bG} {w:World} {s:bP} {a:Act} (F:av κ φ w s a) (i:Nat) (_:φ i≠.un) :
 av κ φ w { s with O:=bq s.O i (some .gone) } a∧dG κ φ s.O w.heap κ φ (bq s.O i (some .gone)) w.heap∧Fr κ w κ w:=
 F.vU (Nat.le_refl _) (fun _ h=>h) (fun _ _ _ _ h=>h) (fun _ _ h=>h) (fun _ _ _ _=>rfl) (fun _ _=>rfl) (fun _=>rfl) (fun _ c _ fz hc=>⟨c,fz,hc,rfl⟩) (fun _ n hn=>by simp [au.cB] at hn) F.bnd.lt (fun _=>trivial)
structure Kp (φ:bG) (O:Tab) (φ' : bG) (O' : Tab):Prop where
 phi:∀i,φ i≠.un→φ' i=φ i
 len:∀i n,φ i≠.un→au.cB (O' i)=some n→au.cB (O i)=some n
theorem Kp.refl (φ:bG) (O:Tab):Kp φ O φ O:=⟨fun _ _=>rfl,fun _ _ _ h=>h⟩
theorem Kp.trans {φ φ' φ'' : bG} {O O' P9 : Tab} (a:Kp φ O φ' O') (b:Kp φ' O' φ'' P9):Kp φ O φ'' P9 where
 phi:=fun i hi=>by rw [b.phi i (by rw [a.phi i hi];exact hi),a.phi i hi]
 len:=fun i n hi hn=>a.len i n hi (b.len i n (by rw [a.phi i hi];exact hi) hn)
theorem dG.kp {κ κ' : bn} {φ φ' : bG} {O O' : Tab} {h h' : Heap} (M:dG κ φ O h κ' φ' O' h'):Kp φ O φ' O':=⟨M.phi,M.len⟩
def Out (P:Program) (κ:bn) (φ:bG) (w:World) (s:bP) (a:Act) (val:RV) (upd:List (Nat×au)) (m:Sem Value):Prop:=
 ∃v w' κ' φ',m.run P w = .ok v w'∧av κ' φ' w' { s with O:=aQ s.O upd } a∧bB κ' φ' (aQ s.O upd) w'.heap val v∧Fr κ w κ' w'∧Kp φ s.O φ' (aQ s.O upd)
theorem Out.pure {κ:bn} {φ:bG} {w:World} {s:bP} {a:Act} {val:RV} {m:Sem Value} {v:Value} (F:av κ φ w s a) (hm:m.run P w = .ok v w)
 (hr:bB κ φ s.O w.heap val v):Out P κ φ w s a val [] m:=
 ⟨v,w,κ,φ,hm,F,hr,Fr.refl _ _,Kp.refl _ _⟩
def JM (P:Program) (κ:bn) (φ:bG) (w:World) (s:bP) (a:Act) (upd:List (Nat×au)) (m:Sem Unit):Prop:=
 ∃w' κ' φ',m.run P w = .ok () w'∧av κ' φ' w' { s with O:=aQ s.O upd } a∧Fr κ w κ' w'∧Kp φ s.O φ' (aQ s.O upd)
theorem EL.part {κ:bn} {h:Heap} {c:Array Value} {off sz:Nat} {els:List DV} (e:EL κ h c off sz els) (k n:Nat) :
 EL κ h c (off+k*sz) sz ((els.drop k).take n)∨(els.drop k).take n=[]:=by
 by_cases hk:(els.drop k).take n=[]
 ·exact .inr hk
 ·left;obtain ⟨h1,h2,h3⟩:=e
  have hmem:∀(i:Nat) (x:DV),((els.drop k).take n)[i]? = some x→els[k+i]? = some x∧i < n:=by
   intro i x hx;rw [List.getElem?_take] at hx;split at hx
   ·rw [List.getElem?_drop] at hx;exact ⟨hx,by assumption⟩
   ·simp at hx
  refine ⟨fun x hx=>?_,?_,fun i x j y v hx hy hv=>?_⟩
  ·obtain ⟨i,hi⟩:=List.mem_iff_getElem?.1 hx;exact h1 x (List.mem_iff_getElem?.2 ⟨_,(hmem i x hi).1⟩)
  ·have hl:((els.drop k).take n).length≤els.length-k:=by simp;omega
   have hkl:k≤els.length:=by
    rcases Nat.lt_or_ge els.length k with hh | hh
    ·exfalso;apply hk;rw [List.drop_eq_nil_of_le (by omega)];simp
    ·exact hh
   have:(((els.drop k).take n).length+k)*sz≤els.length*sz:=Nat.mul_le_mul_right _ (by omega)
   rw [Nat.add_mul] at this;omega
  ·refine h3 (k+i) x j y v (hmem i x hx).1 hy ?_;rw [Nat.add_mul,←Nat.add_assoc];exact hv
def yK (κ:bn) (h:Heap) (v:Value) (sz:Nat) (els:List DV):Prop:=
 ∃base cap,v = .slice base els.length cap∧els.length≤cap∧
  (els=[]∨∃b off c ty fz,base=some ⟨b,off,none⟩∧h[b]? = some (.cells c ty fz)∧EL κ h c off sz els∧off+cap*sz≤c.size)
theorem DR.JN {κ:bn} {h:Heap} {sz:Nat} {els:List DV} {full:Bool} {v:Value} (r:DR κ h (.aL sz els full) v):yK κ h v sz els:=by
 cases r with
 | iD hf=>exact ⟨_,_,rfl,Nat.zero_le _,.inl rfl⟩
 | aL hκ hb hf hc hs hz hr=>
   refine ⟨_,_,rfl,hc,.inr ⟨_,_,_,_,_,rfl,hb,⟨hz,?_,hr⟩,hs⟩⟩
   have:=Nat.mul_le_mul_right sz hc
   omega
theorem wS {κ:bn} {φ:bG} {O:Tab} {h:Heap} {i sz:Nat} {els:List DV} (ho:(∃ty,OR κ φ O h i (some (.arr ty sz els)))∨OR κ φ O h i (some (.jr sz els))) :
 (φ i = .nil∧els=[])∨∃b c ty fz,φ i = .at b∧h[b]? = some (.cells c ty fz)∧EL κ h c 0 sz els:=by
 rcases ho with ⟨_,h1 | ⟨b,c,fz,h1,_,h3,_,h5⟩⟩ | (h1 | ⟨b,c,ty,fz,h1,_,h3,h5⟩)
 ·exact .inl h1
 ·exact .inr ⟨b,c,_,fz,h1,h3,h5⟩
 ·exact .inl h1
 ·exact .inr ⟨b,c,ty,fz,h1,h3,h5⟩
theorem jO {κ:bn} {φ:bG} {O:Tab} {h:Heap} {i sz:Nat} {els:List DV} {v:Value} (hO:(∃ty,O i=some (.arr ty sz els))∨O i=some (.jr sz els))
 (ho:OR κ φ O h i (O i)) (r:bB κ φ O h (.own i sz) v):yK κ h v sz els:=by
 have ho' : (∃ty,OR κ φ O h i (some (.arr ty sz els)))∨OR κ φ O h i (some (.jr sz els)):=by
  rcases hO with ⟨ty,e⟩ | e<;>rw [e] at ho
  ·exact .inl ⟨ty,ho⟩
  ·exact .inr ho
 have hl:au.cB (O i)=some els.length:=by rcases hO with ⟨_,e⟩ | e<;>rw [e]<;>rfl
 cases r with
 | own hφ hb hcap hlc hlen=>
   have:=hlen _ hl;subst this
   rcases wS ho' with ⟨h1,h2⟩ | ⟨b,c,ty,fz,h1,h3,h5⟩
   ·rw [h1] at hφ;cases hφ
   ·rw [h1] at hφ;injection hφ with hφ;subst hφ;rw [h3] at hb;injection hb with hb;injection hb with hb1 hb2 hb3;subst hb1;exact ⟨_,_,rfl,hlc,.inr ⟨_,_,_,_,_,rfl,h3,h5,by omega⟩⟩
 | fP hφ=>
   rcases wS ho' with ⟨h1,h2⟩ | ⟨b,c,ty,fz,h1,h3,h5⟩
   ·subst h2;exact ⟨_,_,rfl,Nat.zero_le _,.inl rfl⟩
   ·rw [h1] at hφ;cases hφ
theorem rU {κ:bn} {φ:bG} {O:Tab} {h:Heap} {i sz off len:Nat} {els:List DV} {v:Value} (hO:(∃ty,O i=some (.arr ty sz els))∨O i=some (.jr sz els))
 (ho:OR κ φ O h i (O i)) (hle:off+len≤els.length) (r:bB κ φ O h (.sub i sz off len) v):yK κ h v sz ((els.drop off).take len):=by
 have ho' : (∃ty,OR κ φ O h i (some (.arr ty sz els)))∨OR κ φ O h i (some (.jr sz els)):=by
  rcases hO with ⟨ty,e⟩ | e<;>rw [e] at ho
  ·exact .inl ⟨ty,ho⟩
  ·exact .inr ho
 have hlen:((els.drop off).take len).length=len:=by simp;omega
 cases r with
 | sub hφ hb hcap hlc=>
   rcases wS ho' with ⟨h1,h2⟩ | ⟨b,c,ty,fz,h1,h3,h5⟩
   ·rw [h1] at hφ;cases hφ
   ·rw [h1] at hφ;injection hφ with hφ;subst hφ;rw [h3] at hb;injection hb with hb;injection hb with hb1 hb2 hb3;subst hb1;refine ⟨_,_,by rw [hlen],by rw [hlen];exact hlc,?_⟩;rcases h5.part off len with h6 | h6
    ·right;refine ⟨_,_,_,_,_,rfl,h3,by simpa using h6,?_⟩;rw [Nat.add_mul] at hcap;omega
    ·exact .inl h6
 | nU hφ=>
   refine ⟨_,_,by rw [hlen],by rw [hlen];exact Nat.zero_le _,.inl (by simp)⟩
theorem CO {κ:bn} {φ:bG} {w:World} {s:bP} {a:Act} (F:av κ φ w s a) {x:RV} {v:Value} {sz:Nat} {els:List DV} {c:List Bool}
 (hx:kJ s.O x=some (sz,els,c)) (hc:∀b∈c,b=true) (r:bB κ φ s.O w.heap x v):yK κ w.heap v sz els:=by
 cases x<;>simp only [kJ] at hx<;>try (simp at hx;done)
 case d x=>
  cases x<;>simp only at hx<;>try (simp at hx;done)
  simp only [Option.some.injEq,Prod.mk.injEq] at hx;obtain ⟨rfl,rfl,rfl⟩:=hx;cases r with
  | d hr=>exact hr.JN
 case own i sz'=>
  cases ho:s.O i with
  | none=>rw [ho] at hx;simp at hx
  | some p=>
    rw [ho] at hx;cases p<;>simp only at hx<;>try (simp at hx;done)
    all_goals
     rename_i CP ug;cases hb:Nat.beq CP sz' with
     | false=>rw [hb] at hx;simp at hx
     | true=>
       have:=bQ hb;subst this
       rw [hb] at hx;simp only [cond_true,Option.some.injEq,Prod.mk.injEq] at hx;obtain ⟨rfl,rfl,rfl⟩:=hx;exact jO (by simp [ho]) (F.objs i) r
 case sub i sz' off len=>
  cases ho:s.O i with
  | none=>rw [ho] at hx;simp at hx
  | some p=>
    rw [ho] at hx;cases p<;>simp only at hx<;>try (simp at hx;done)
    all_goals
     rename_i CP ug;cases hb:Nat.beq CP sz' with
     | false=>rw [hb] at hx;simp at hx
     | true=>
       have:=bQ hb;subst this
       rw [hb] at hx;simp only [cond_true,Option.some.injEq,Prod.mk.injEq] at hx;obtain ⟨rfl,rfl,rfl⟩:=hx;exact rU (by simp [ho]) (F.objs i) (by simpa using hc) r
theorem AJ {κ:bn} {φ:bG} {O:Tab} {h:Heap} {i sz:Nat} {els els' : List DV} {v:Value} (ho:OR κ φ O h i (some (.jr sz els)))
 (hs:yK κ h v sz els') (hb:∀base len cap,v = .slice base len cap→els'≠[]→∃b off,base=some ⟨b,off,none⟩∧φ i = .at b):DR κ h (.aL sz els' false) v:=by
 obtain ⟨base,cap,rfl,hcap,hs⟩:=hs;by_cases he:els'=[]
 ·subst he;exact .iD (fun hh=>by simp at hh)
 ·rcases hs with hs | ⟨b,off,c,ty,fz,rfl,hb',hel,hsz⟩
  ·exact absurd hs he
  ·obtain ⟨b0,aaS,e,hφ⟩:=hb _ _ _ rfl he;injection e with e;injection e with e1 e2;subst e1;rcases ho with ⟨h1,_⟩ | ⟨b1,c1,ty1,fz1,h1,h2,h3,h5⟩
   ·rw [h1] at hφ;cases hφ
   ·rw [h1] at hφ;injection hφ with hφ;subst hφ;exact .aL h2 hb' (fun hh=>by simp at hh) hcap hsz hel.1 hel.2.2
def jP (O O' : Tab):Prop:=∀i,O' i=O i∨∃ty sz els,O i=some (.arr ty sz els)∧O' i=some (.jr sz els)
theorem jP.refl (O:Tab):jP O O:=fun _=>.inl rfl
theorem bC (O:Tab) (u u' : List (Nat×au)):aQ O (u++u')=aQ (aQ O u) u':=by simp [aQ,List.foldl_append]
theorem Il {O:Tab} {i:Nat} {p:au} (h:O i=some p):bq O i (some p)=O:=by
 funext j;unfold bq;split
 ·rename_i e;subst e;exact h.symm
 ·rfl
theorem CQ {κ:bn} {φ:bG} {O:Tab} {h:Heap} {i sz:Nat} {v:Value} (r:bB κ φ O h (.own i sz) v) :
 ∃base len cap,v = .slice base len cap∧(len=0∨∃b off,base=some ⟨b,off,none⟩∧φ i = .at b):=by
 cases r with
 | own hφ hb hcap hlc hlen=>exact ⟨_,_,_,rfl,.inr ⟨_,_,rfl,hφ⟩⟩
 | fP hφ=>exact ⟨_,_,_,rfl,.inl rfl⟩
theorem CS {κ:bn} {φ:bG} {O:Tab} {h:Heap} {i sz off len:Nat} {v:Value} (r:bB κ φ O h (.sub i sz off len) v) :
 ∃base cap,v = .slice base len cap∧(len=0∨∃b off,base=some ⟨b,off,none⟩∧φ i = .at b):=by
 cases r with
 | sub hφ hb hcap hlc=>exact ⟨_,_,rfl,.inr ⟨_,_,rfl,hφ⟩⟩
 | nU hφ=>exact ⟨_,_,rfl,.inl rfl⟩
theorem vk {κ:bn} {φ:bG} {w:World} {s:bP} {a:Act} (F:av κ φ w s a) {O0:Tab} (hf:jP O0 s.O) {i ty sz:Nat} {els:List DV} (ho:O0 i=some (.arr ty sz els)) :
 ∃κ',av κ' φ w { s with O:=bq s.O i (some (.jr sz els)) } a∧dG κ φ s.O w.heap κ' φ (bq s.O i (some (.jr sz els))) w.heap∧
  Fr κ w κ' w∧jP O0 (bq s.O i (some (.jr sz els))):=by
 have hfz:jP O0 (bq s.O i (some (.jr sz els))):=fun j=>by
  by_cases e:j=i
  ·subst e;right;exact ⟨ty,sz,els,ho,bE _ _ _⟩
  ·rw [dD _ _ e];exact hf j
 rcases hf i with e | ⟨ty',sz',els',h1,h2⟩
 ·obtain ⟨κ',h1,h2,h3⟩:=F.freeze (i:=i) (sz:=sz) (els:=els) (by rw [e];exact ho);exact ⟨κ',h1,h2,h3,hfz⟩
 ·rw [ho] at h1;injection h1 with h1;injection h1 with h1c h1a h1b;subst h1a;subst h1b;rw [Il h2] at hfz ⊢;exact ⟨κ,F,dG.refl _ _ _ _,Fr.refl _ _,hfz⟩
theorem uh {κ:bn} {φ:bG} {w:World} {s:bP} {a:Act} (F:av κ φ w s a) {O0:Tab} (hf:jP O0 s.O) {x:RV} {v:Value} {y:DV}
 {u:List (Nat×au)} {c:List Bool} (hx:gH O0 x=some (y,u,c)) (hc:∀b∈c,b=true) (r:bB κ φ s.O w.heap x v) :
 ∃κ',av κ' φ w { s with O:=aQ s.O u } a∧dG κ φ s.O w.heap κ' φ (aQ s.O u) w.heap∧Fr κ w κ' w∧jP O0 (aQ s.O u)∧DR κ' w.heap y v:=by
 cases x<;>simp only [gH] at hx<;>try (simp at hx;done)
 case d x=>
  simp only [Option.some.injEq,Prod.mk.injEq] at hx;obtain ⟨rfl,rfl,rfl⟩:=hx;cases r with
  | d hr=>exact ⟨κ,F,dG.refl _ _ _ _,Fr.refl _ _,hf,hr⟩
 case own i sz=>
  cases ho:O0 i with
  | none=>rw [ho] at hx;simp at hx
  | some p=>
    rw [ho] at hx;cases p<;>simp only at hx<;>try (simp at hx;done)
    case arr QK CP ug=>
     cases hb:Nat.beq CP sz with
     | false=>rw [hb] at hx;simp at hx
     | true=>
       have:=bQ hb;subst this
       rw [hb] at hx;simp only [cond_true,Option.some.injEq,Prod.mk.injEq] at hx;obtain ⟨rfl,rfl,rfl⟩:=hx;obtain ⟨κ',h1,h2,h3,h4⟩:=vk F hf ho;refine ⟨κ',h1,h2,h3,h4,?_⟩;have r':=r.mono h2;have ho':=h1.objs i;have e:(bq s.O i (some (au.jr CP ug))) i=some (.jr CP ug):=bE _ _ _;simp only [e] at ho';refine AJ ho' (jO (.inr e) (by simp only [e];exact ho') r') (fun base len cap hv hne=>?_);obtain ⟨base',len',cap',hv',hb'⟩:=CQ r';have hl:=jO (.inr e) (by simp only [e];exact ho') r';obtain ⟨Vz,cap2,hv2,_⟩:=hl;subst hv;injection hv' with e1 e2 e3;subst e1;injection hv2 with e4 e5 e6;rcases hb' with hb' | hb'
       ·exfalso;apply hne;apply List.eq_nil_of_length_eq_zero;omega
       ·exact hb'
    case jr CP ug=>
     cases hb:Nat.beq CP sz with
     | false=>rw [hb] at hx;simp at hx
     | true=>
       have:=bQ hb;subst this
       rw [hb] at hx;simp only [cond_true,Option.some.injEq,Prod.mk.injEq] at hx;obtain ⟨rfl,rfl,rfl⟩:=hx
       have e:s.O i=some (.jr CP ug):=by
        rcases hf i with e | ⟨ty',sz',els',h1,h2⟩
        ·rw [e];exact ho
        ·rw [ho] at h1;cases h1
       have ho':=F.objs i;rw [e] at ho';refine ⟨κ,F,dG.refl _ _ _ _,Fr.refl _ _,hf,AJ ho' (jO (.inr e) (by rw [e];exact ho') r) (fun base len cap hv hne=>?_)⟩;obtain ⟨base',len',cap',hv',hb'⟩:=CQ r;obtain ⟨Vz,cap2,hv2,_⟩:=jO (.inr e) (by rw [e];exact ho') r;subst hv;injection hv' with e1 e2 e3;subst e1;injection hv2 with e4 e5 e6;rcases hb' with hb' | hb'
       ·exfalso;apply hne;apply List.eq_nil_of_length_eq_zero;omega
       ·exact hb'
 case sub i sz off len=>
  cases ho:O0 i with
  | none=>rw [ho] at hx;simp at hx
  | some p=>
    rw [ho] at hx;cases p<;>simp only at hx<;>try (simp at hx;done)
    case arr QK CP ug=>
     cases hb:Nat.beq CP sz with
     | false=>rw [hb] at hx;simp at hx
     | true=>
       have:=bQ hb;subst this
       rw [hb] at hx;simp only [cond_true,Option.some.injEq,Prod.mk.injEq] at hx;obtain ⟨rfl,rfl,rfl⟩:=hx;obtain ⟨κ',h1,h2,h3,h4⟩:=vk F hf ho;refine ⟨κ',h1,h2,h3,h4,?_⟩;have r':=r.mono h2;have ho':=h1.objs i;have e:(bq s.O i (some (au.jr CP ug))) i=some (.jr CP ug):=bE _ _ _;simp only [e] at ho';have hle:off+len≤ug.length:=by simpa using hc
       refine AJ ho' (rU (.inr e) (by simp only [e];exact ho') hle r') (fun base l cap hv hne=>?_);obtain ⟨base',cap',hv',hb'⟩:=CS r';subst hv;injection hv' with e1 e2 e3;subst e1;rcases hb' with hb' | hb'
       ·exfalso;apply hne;subst hb';simp
       ·exact hb'
    case jr CP ug=>
     cases hb:Nat.beq CP sz with
     | false=>rw [hb] at hx;simp at hx
     | true=>
       have:=bQ hb;subst this
       rw [hb] at hx;simp only [cond_true,Option.some.injEq,Prod.mk.injEq] at hx;obtain ⟨rfl,rfl,rfl⟩:=hx
       have e:s.O i=some (.jr CP ug):=by
        rcases hf i with e | ⟨ty',sz',els',h1,h2⟩
        ·rw [e];exact ho
        ·rw [ho] at h1;cases h1
       have ho':=F.objs i;rw [e] at ho';have hle:off+len≤ug.length:=by simpa using hc
       refine ⟨κ,F,dG.refl _ _ _ _,Fr.refl _ _,hf,AJ ho' (rU (.inr e) (by rw [e];exact ho') hle r) (fun base l cap hv hne=>?_)⟩;obtain ⟨base',cap',hv',hb'⟩:=CS r;subst hv;injection hv' with e1 e2 e3;subst e1;rcases hb' with hb' | hb'
       ·exfalso;apply hne;subst hb';simp
       ·exact hb'
theorem EF {O0:Tab}:∀{κ:bn} {φ:bG} {w:World} {s:bP} {a:Act} (_:av κ φ w s a) (_:jP O0 s.O) {xs:List RV} {vs:List Value} {ys:List DV}
 {u:List (Nat×au)} {c:List Bool} (_:iL O0 xs=some (ys,u,c)) (_:∀b∈c,b=true) (_:vs.length=xs.length)
 (_:∀(i:Nat) (x:RV) (v:Value),xs[i]? = some x→vs[i]? = some v→bB κ φ s.O w.heap x v),
 ∃κ',av κ' φ w { s with O:=aQ s.O u } a∧dG κ φ s.O w.heap κ' φ (aQ s.O u) w.heap∧Fr κ w κ' w∧jP O0 (aQ s.O u)∧
  ys.length=xs.length∧(∀y∈ys,y.gP=true)∧∀(i:Nat) (y:DV) (v:Value),ys[i]? = some y→vs[i]? = some v→DR κ' w.heap y v:=by
 intro κ φ w s a F hf xs;induction xs generalizing κ s with
 | nil=>
   intro vs ys u c hx _ _ _;simp only [iL,Option.some.injEq,Prod.mk.injEq] at hx;obtain ⟨rfl,rfl,rfl⟩:=hx;exact ⟨κ,F,dG.refl _ _ _ _,Fr.refl _ _,hf,rfl,by simp,by simp⟩
 | cons x xs ih=>
   intro vs ys u c hx hc hl hr;simp only [iL] at hx;cases h1:gH O0 x with
   | none=>rw [h1] at hx;simp at hx
   | some p1=>
     obtain ⟨y,u1,c1⟩:=p1;cases h2:iL O0 xs with
     | none=>rw [h1,h2] at hx;simp at hx
     | some p2=>
       obtain ⟨l,u2,c2⟩:=p2;rw [h1,h2] at hx;simp only at hx;cases hs:y.gP with
       | false=>rw [hs] at hx;simp at hx
       | true=>
         rw [hs] at hx;simp only [cond_true,Option.some.injEq,Prod.mk.injEq] at hx;obtain ⟨rfl,rfl,rfl⟩:=hx;cases vs with
         | nil=>simp at hl
         | cons v vs=>
           obtain ⟨κ1,F1,M1,R1,f1,d1⟩:=uh F hf h1 (fun b hb=>hc b (by simp [hb])) (hr 0 x v rfl rfl)
           obtain ⟨κ2,F2,M2,R2,f2,l2,s2,d2⟩:=ih F1 f1 h2 (fun b hb=>hc b (by simp [hb])) (vs:=vs) (by simpa using hl)
            (fun i x' v' hx' hv'=>(hr (i+1) x' v' (by simpa using hx') (by simpa using hv')).mono M1)
           refine ⟨κ2,?_,?_,R1.trans R2,?_,by simp [l2],?_,?_⟩
           ·rw [bC];exact F2
           ·rw [bC];exact M1.trans M2
           ·rw [bC];exact f2
           ·intro y' hy';rcases List.mem_cons.1 hy' with rfl | hy'
            ·exact hs
            ·exact s2 y' hy'
           ·intro i y' v' hy' hv';cases i with
            | zero=>simp at hy' hv';subst hy';subst hv';exact d1.mono M2.dA
            | succ i=>exact d2 i y' v' (by simpa using hy') (by simpa using hv')
theorem AL {κ:bn} {φ:bG} {w:World} {s:bP} {a:Act} (F:av κ φ w s a) {O0:Tab} (hf:jP O0 s.O) {x:RV} {v:Value} {y:DV}
 {u:List (Nat×au)} {c:List Bool} (hx:rQ O0 x=some (y,u,c)) (hc:∀b∈c,b=true) (r:bB κ φ s.O w.heap x v) :
 ∃κ',av κ' φ w { s with O:=aQ s.O u } a∧dG κ φ s.O w.heap κ' φ (aQ s.O u) w.heap∧Fr κ w κ' w∧jP O0 (aQ s.O u)∧DR κ' w.heap y v:=by
 by_cases hag:∃cs,x = .agg cs
 ·obtain ⟨cs,rfl⟩:=hag;simp only [rQ] at hx;cases h1:iL O0 cs with
  | none=>rw [h1] at hx;simp at hx
  | some p=>
    obtain ⟨l,u1,c1⟩:=p;rw [h1] at hx;simp only [Option.some.injEq,Prod.mk.injEq] at hx;obtain ⟨rfl,rfl,rfl⟩:=hx;cases r with
    | agg hl hs hr=>
      rename_i vs;obtain ⟨κ',h2,h3,h4,h5,h6,h7,h8⟩:=EF F hf h1 hc (vs:=vs.toList) (by simpa using hl) (fun i x v hx hv=>hr i x v hx (by simpa using hv));exact ⟨κ',h2,h3,h4,h5,.agg (by rw [hl,h6]) h7 (fun i y v hy hv=>h8 i y v hy (by simpa using hv))⟩
 ·have:rQ O0 x=gH O0 x:=by cases x<;>first | rfl | exact absurd ⟨_,rfl⟩ hag
  rw [this] at hx;exact uh F hf hx hc r
theorem DR.NK {κ:bn} {h:Heap} {x:DV} {v:Value} (r:DR κ h x v) (hv:v.oneCell=true):x.gP=true:=by
 cases r<;>first | rfl | (simp [Value.oneCell] at hv)
theorem zn:∀(l:List RV) (dl:List DV),CJ l=some dl→l=dl.map .d:=by
 intro l;induction l with
 | nil=>intro dl h;simp [CJ] at h;subst h;rfl
 | cons x l ih=>
   intro dl h;cases x<;>simp only [CJ] at h<;>try (simp at h;done)
   cases h2:CJ l with
   | none=>rw [h2] at h;simp at h
   | some dl2=>rw [h2] at h;simp at h;subst h;simp [←ih dl2 h2]
theorem mq {κ:bn} {φ:bG} {O:Tab} {h:Heap} {l:List RV} {vs:Array Value} (hl:vs.size=l.length) (hs:∀v∈vs,v.oneCell=true)
 (hr:∀(i:Nat) (x:RV) (v:Value),l[i]? = some x→vs[i]? = some v→bB κ φ O h x v):bB κ φ O h (qz l) (.agg vs):=by
 unfold qz;cases e:CJ l with
 | none=>exact .agg hl hs hr
 | some dl=>
   have:=zn l dl e;subst this
   have hd:∀(i:Nat) (x:DV) (v:Value),dl[i]? = some x→vs[i]? = some v→DR κ h x v:=by
    intro i x v hx hv
    have:=hr i (.d x) v (by simp [hx]) hv
    cases this with
    | d hr=>exact hr
   refine .d (.agg (by simpa using hl) (fun y hy=>?_) hd);obtain ⟨i,hi⟩:=List.mem_iff_getElem?.1 hy
   have hlt:i < vs.size:=by
    have:=(List.getElem?_eq_some_iff.1 hi).1
    simp at hl;omega
   exact (hd i y vs[i] hi (by simp [hlt])).NK (hs _ (by simp))
theorem wT {κ:bn} {h:Heap} {c:Array Value} {o sz:Nat} {els:List DV} (e:EL κ h c o sz els) {i:Nat} {x:DV} (hx:els[i]? = some x) :
 o+i*sz+sz≤c.size∧x.cells.length=sz∧(∀y∈x.cells,y.gP=true)∧
  ∀(j:Nat) (y:DV) (v:Value),x.cells[j]? = some y→c[o+i*sz+j]? = some v→DR κ h y v:=by
 have hi:=(List.getElem?_eq_some_iff.1 hx).1;have hm:=List.mem_iff_getElem?.2 ⟨i,hx⟩;refine ⟨?_,(e.1 x hm).1,(e.1 x hm).2,fun j y v hy hv=>e.2.2 i x j y v hx hy hv⟩
 have:=Nat.mul_le_mul_right sz (show i+1≤els.length from hi)
 rw [Nat.add_mul] at this
 have:=e.2.1
 omega
theorem AO {κ:bn} {h:Heap} {t z off o:Nat} {cs:List DV} {c:Array Value} {y:DV} (hy:cut (Env.of P) t z cs off=some y)
 (hs:o+cs.length≤c.size) (hsc:∀y∈cs,y.gP=true)
 (hr:∀(j:Nat) (y:DV) (v:Value),cs[j]? = some y→c[o+j]? = some v→DR κ h y v) :
 DR κ h y (if (Env.of P).isAgg t then .agg (c.extract (o+off) (o+off+z)) else c.getD (o+off) undef)∧((Env.of P).isAgg t=false→z=1)∧off+z≤cs.length:=by
 unfold cut at hy;cases h1:Nat.ble (off+z) cs.length with
 | false=>rw [h1] at hy;simp at hy
 | true=>
   have hle:=Nat.le_of_ble_eq_true h1;rw [h1] at hy;simp only [cond_true] at hy;cases h2:(Env.of P).isAgg t with
   | true=>
     rw [h2] at hy;simp only [cond_true,Option.some.injEq] at hy;subst hy;refine ⟨?_,by simp,hle⟩;simp only [if_true];refine .agg (by simp;omega) (fun y hy=>hsc y (List.mem_of_mem_drop (List.mem_of_mem_take hy))) (fun i x v hx hv=>?_);rw [List.getElem?_take] at hx;split at hx
     ·rw [List.getElem?_drop] at hx;rw [Array.getElem?_extract] at hv;split at hv
      ·refine hr (off+i) x v hx ?_;rw [←Nat.add_assoc];exact hv
      ·simp at hv
     ·simp at hx
   | false=>
     rw [h2] at hy;simp only [cond_false] at hy;cases h3:Nat.beq z 1 with
     | false=>rw [h3] at hy;simp at hy
     | true=>
       have:=bQ h3;subst this
       rw [h3] at hy;simp only [cond_true,Option.some.injEq] at hy;subst hy;have hlt:off < cs.length:=by omega
       refine ⟨?_,by simp,hle⟩;simp only [Bool.false_eq_true,if_false];have hlt2:o+off < c.size:=by omega
       refine hr off _ _ ?_ (by simp [Array.getD,hlt2]);simp [List.getD,hlt]
theorem gV {w:World} {t z b o:Nat} {c:Array Value} {ty:TypeId} {fz:Nat×Nat} (hz:(Env.of P).size t=some z) (hb:w.heap[b]? = some (.cells c ty fz))
 (hn:o+z≤c.size) (h1:(Env.of P).isAgg t=false→z=1) :
 (Instr.loadAt t (.pointer (some ⟨b,o,none⟩))).run P w = .ok (if (Env.of P).isAgg t then .agg (c.extract o (o+z)) else c.getD o undef) w:=by
 simp only [Instr.loadAt,Instr.sureAddr,Sem.run_bind,Sem.run_pure,Result.andThen_ok];exact wQ hz hb hn h1
theorem Im {κ:bn} {φ:bG} {w:World} {O:Tab} {t z off:Nat} {x y:DV} {v:Value} (hz:(Env.of P).size t=some z)
 (hy:cut (Env.of P) t z x.cells off=some y) (r:bB κ φ O w.heap (.bf x off) v) :
 ∃u,(Instr.loadAt t v).run P w = .ok u w∧DR κ w.heap y u:=by
 cases r with
 | bf hκ hb hs hsc hr=>
   rename_i b o c ty fz;obtain ⟨h1,h2,h3⟩:=AO hy hs hsc hr;exact ⟨_,gV hz hb (by omega) h2,h1⟩
theorem EG {κ:bn} {w:World} {t z idx sz off b:Nat} {c:Array Value} {ty:TypeId} {fz:Nat×Nat} {els:List DV} {y:DV} {VA:List Bool} (hz:(Env.of P).size t=some z)
 (hb:w.heap[b]? = some (.cells c ty fz)) (he:EL κ w.heap c 0 sz els)
 (hy:wz (Env.of P) t z sz off idx els=some (y,VA)) (hc:∀b∈VA,b=true) :
 ∃u,(Instr.loadAt t (.pointer (some ⟨b,idx*sz+off,none⟩))).run P w = .ok u w∧DR κ w.heap y u:=by
 unfold wz at hy
 have hi:idx < els.length:=by
  cases hq:(Nat.beq off 0&&Nat.beq z sz&&Nat.beq sz 1 && !(Env.of P).isAgg t) with
  | true=>
    rw [hq] at hy;simp only [cond_true,Option.some.injEq,Prod.mk.injEq] at hy;obtain ⟨rfl,rfl⟩:=hy;simpa using hc (decide (idx < els.length)) (by simp)
  | false=>
    rw [hq] at hy;simp only [cond_false] at hy;cases hcut:cut (Env.of P) t z (els.getD idx .aD).cells off with
    | none=>rw [hcut] at hy;simp at hy
    | some y'=>
      rw [hcut] at hy;simp only [Option.some.injEq,Prod.mk.injEq] at hy;obtain ⟨rfl,rfl⟩:=hy;simpa using hc (decide (idx < els.length)) (by simp)
 have hx:els[idx]? = some (els.getD idx .aD):=by simp [List.getD,hi]
 obtain ⟨e1,e2,e3,e4⟩:=wT he hx;simp only [Nat.zero_add] at e1 e4;cases hq:(Nat.beq off 0&&Nat.beq z sz&&Nat.beq sz 1 && !(Env.of P).isAgg t) with
 | true=>
   rw [hq] at hy;simp only [cond_true,Option.some.injEq,Prod.mk.injEq] at hy;obtain ⟨rfl,rfl⟩:=hy;simp only [Bool.and_eq_true,Bool.not_eq_true'] at hq;obtain ⟨⟨⟨q1,q2⟩,q3⟩,q4⟩:=hq
   have:=bQ q1;subst this
   have:=bQ q2;subst this
   have:=bQ q3;subst this
   refine ⟨_,gV hz hb (by omega) (fun _=>rfl),?_⟩;rw [q4];simp only [Bool.false_eq_true,if_false]
   have hsc:(els.getD idx .aD).gP=true:=by
    have:=hc (els.getD idx .aD).gP (by simp)
    exact this
   have hlt:idx*1+0 < c.size:=by omega
   refine e4 0 _ _ ?_ (by simp [Array.getD,show idx < c.size by omega]);generalize els.getD idx .aD=q at *;cases q<;>first | rfl | (simp [DV.gP] at hsc)
 | false=>
   rw [hq] at hy;simp only [cond_false] at hy;cases hcut:cut (Env.of P) t z (els.getD idx .aD).cells off with
   | none=>rw [hcut] at hy;simp at hy
   | some y'=>
     rw [hcut] at hy;simp only [Option.some.injEq,Prod.mk.injEq] at hy;obtain ⟨rfl,rfl⟩:=hy;obtain ⟨h1,h2,h3⟩:=AO hcut (o:=idx*sz) (by omega) e3 e4;exact ⟨_,gV hz hb (by omega) h2,h1⟩
def CU (P:Program) (κ:bn) (φ:bG) (w:World) (s:bP) (val:RV) (upd:List (Nat×au)) (m:Sem Value):Prop:=
 upd=[]∧∃u,m.run P w = .ok u w∧bB κ φ s.O w.heap val u
theorem JO {E:Env} {t z off:Nat} {cs:List DV} {y:DV} {c:List Bool} (h:NH E t z cs off=some (y,c)) (hc:∀b∈c,b=true):cut E t z cs off=some y:=by
 unfold NH at h;unfold cut;cases hg:E.isAgg t with
 | true=>
   rw [hg] at h;simp only [cond_true,Option.some.injEq,Prod.mk.injEq] at h;obtain ⟨rfl,rfl⟩:=h;rw [hc _ (.head _)];rfl
 | false=>
   rw [hg] at h;simp only [cond_false] at h;cases hz:Nat.beq z 1 with
   | false=>rw [hz] at h;simp at h
   | true=>
     rw [hz] at h;simp only [cond_true,Option.some.injEq,Prod.mk.injEq] at h;obtain ⟨rfl,rfl⟩:=h;rw [hc _ (.head _)];rfl
theorem EH {E:Env} {t z sz off idx:Nat} {els:List DV} {y:DV} {c:List Bool} (h:tX E t z sz off idx els=some (y,c)) (hc:∀b∈c,b=true):∃c0,wz E t z sz off idx els=some (y,c0)∧∀b∈c0,b=true:=by
 unfold tX at h;unfold wz;cases hq:(Nat.beq off 0&&Nat.beq z sz&&Nat.beq sz 1 && !E.isAgg t) with
 | true=>rw [hq] at h;exact ⟨c,h,hc⟩
 | false=>
   rw [hq] at h;simp only [cond_false] at h ⊢;cases hk:NH E t z (els.getD idx .aD).cells off with
   | none=>rw [hk] at h;simp at h
   | some p=>
     obtain ⟨y',c'⟩:=p;rw [hk] at h;simp only [Option.some.injEq,Prod.mk.injEq] at h;obtain ⟨rfl,rfl⟩:=h;rw [JO hk (fun b hb=>hc b (.tail _ hb))];exact ⟨_,rfl,fun b hb=>by simp only [List.mem_singleton] at hb;subst hb;exact hc _ (.head _)⟩
theorem Io {κ:bn} {w:World} {t z idx sz off b:Nat} {c:Array Value} {ty:TypeId} {fz:Nat×Nat} {els:List DV} {y:DV} {VA:List Bool} (hz:(Env.of P).size t=some z)
 (hb:w.heap[b]? = some (.cells c ty fz)) (he:EL κ w.heap c 0 sz els)
 (hy:tX (Env.of P) t z sz off idx els=some (y,VA)) (hc:∀b∈VA,b=true) :
 ∃u,(Instr.loadAt t (.pointer (some ⟨b,idx*sz+off,none⟩))).run P w = .ok u w∧DR κ w.heap y u:=
 let ⟨_,h1,h2⟩:=EH hy hc
 EG hz hb he h1 h2
theorem CU.pure {κ:bn} {φ:bG} {w:World} {s:bP} {val:RV} {m:Sem Value} {v:Value} (hm:m.run P w = .ok v w) (hr:bB κ φ s.O w.heap val v):CU P κ φ w s val [] m:=
 ⟨rfl,v,hm,hr⟩
theorem CV {κ:bn} {φ:bG} {w:World} {s:bP} {a:Act} (F:av κ φ w s a) {t:Nat} {x:RV} {v:Value} {res:bX}
 (hx:lM (Env.of P) s.O t x=some res) (hc:∀b∈res.conds,b=true) (r:bB κ φ s.O w.heap x v):CU P κ φ w s res.val res.upd (Instr.loadAt t v):=by
 unfold lM at hx;cases hz:(Env.of P).size t with
 | none=>rw [hz] at hx;simp at hx
 | some z=>
   rw [hz] at hx;cases x<;>simp only at hx<;>try (simp at hx;done)
   case bf x off=>
    cases hcut:cut (Env.of P) t z x.cells off with
    | none=>rw [hcut] at hx;simp at hx
    | some y=>
      rw [hcut] at hx;simp only [Option.some.injEq] at hx;subst hx;obtain ⟨u,h1,h2⟩:=Im hz hcut r;exact CU.pure h1 (.d h2)
   case ptr i off=>
    cases r with
    | ptr hφ=>
      rename_i b;have ho:=F.objs i;cases hO:s.O i with
      | none=>rw [hO] at hx;simp at hx
      | some p=>
        rw [hO] at hx ho;cases p<;>simp only at hx<;>try (simp at hx;done)
        case box ty cs=>
         obtain ⟨b',c,h1,h2,h3,h4,h5,h6⟩:=ho;rw [h1] at hφ;injection hφ with hφ;subst hφ;cases hle:Nat.ble (off+z) cs.length with
         | false=>rw [hle] at hx;simp at hx
         | true=>
           have hle':=Nat.le_of_ble_eq_true hle;rw [hle] at hx;simp only [cond_true] at hx;cases ha:(Env.of P).isAgg t with
           | true=>
             rw [ha] at hx;simp only [cond_true,Option.some.injEq] at hx;subst hx;have hrun:=gV hz h3 (o:=off) (by omega) (by rw [ha];simp);rw [ha] at hrun;simp only [if_true] at hrun;refine CU.pure hrun (mq (by simp;omega) (fun v hv=>?_) (fun k x v hx hv=>?_))
             ·obtain ⟨k,hk⟩:=Array.mem_iff_getElem?.1 hv;rw [Array.getElem?_extract] at hk;split at hk
              ·exact h5 v (Array.mem_iff_getElem?.2 ⟨_,hk⟩)
              ·simp at hk
             ·rw [List.getElem?_take] at hx;split at hx
              ·rw [List.getElem?_drop] at hx;rw [Array.getElem?_extract] at hv;split at hv
               ·exact h6 _ x v hx hv
               ·simp at hv
              ·simp at hx
           | false=>
             rw [ha] at hx;simp only [cond_false] at hx;cases h1' : Nat.beq z 1 with
             | false=>rw [h1'] at hx;simp at hx
             | true=>
               have:=bQ h1';subst this
               rw [h1'] at hx;simp only [cond_true,Option.some.injEq] at hx;subst hx;have hrun:=gV hz h3 (o:=off) (by omega) (fun _=>rfl);rw [ha] at hrun;simp only [Bool.false_eq_true,if_false] at hrun;refine CU.pure hrun ?_;have hlt:off < cs.length:=by omega
               have hlt2:off < c.size:=by omega
               exact h6 off _ _ (by simp [List.getD,hlt]) (by simp [Array.getD,hlt2])
        case arr ty sz els=>
         cases hg:((Env.of P).isAgg t&&Nat.beq off 0) with
         | false=>rw [hg] at hx;simp at hx
         | true=>
           rw [hg] at hx;simp only [cond_true,Option.some.injEq] at hx;subst hx;simp only [Bool.and_eq_true] at hg
           have:=bQ hg.2;subst this
           have hlen:els.length*sz=z:=by simpa using hc
           rcases ho with ⟨h1,h2⟩ | ⟨b',c,fz,h1,h2,h3,h4,h5⟩
           ·rw [h1] at hφ;cases hφ
           ·rw [h1] at hφ;injection hφ with hφ;subst hφ;have hle:els.length*sz≤c.size:=by have:=h5.2.1;omega
            have hrun:=gV hz h3 (o:=0) (by omega) (by rw [hg.1];simp);rw [hg.1] at hrun;simp only [if_true] at hrun;refine CU.pure hrun (.d ?_)
            have zo:∀(l:List DV),wM sz l→(l.flatMap DV.cells).length=l.length*sz∧∀(k:Nat) (y:DV),(l.flatMap DV.cells)[k]? = some y→∃i x j,l[i]? = some x∧x.cells[j]? = some y∧k=i*sz+j:=by
             intro l;induction l with
             | nil=>intro _;exact ⟨by simp,by simp⟩
             | cons x l ih=>
               intro hok;obtain ⟨g1,g2⟩:=ih (fun y hy=>hok y (by simp [hy]));have g3:=(hok x (by simp)).1;refine ⟨by simp [g1,g3,Nat.add_mul];omega,fun k y hk=>?_⟩;simp only [List.flatMap_cons] at hk;by_cases hkl:k < x.cells.length
               ·rw [List.getElem?_append_left hkl] at hk;exact ⟨0,x,k,rfl,hk,by simp⟩
               ·rw [List.getElem?_append_right (by omega)] at hk;obtain ⟨i,x',j,q1,q2,q3⟩:=g2 _ y hk;refine ⟨i+1,x',j,by simpa using q1,q2,?_⟩;rw [Nat.add_mul];omega
            obtain ⟨g1,g2⟩:=zo els h5.1;refine .agg (by simp [g1];omega) (fun y hy=>?_) (fun k y v hy hv=>?_)
            ·simp only [List.mem_flatMap] at hy;obtain ⟨x,hx1,hx2⟩:=hy;exact (h5.1 x hx1).2 y hx2
            ·obtain ⟨i',x',j,q1,q2,q3⟩:=g2 k y hy;rw [Array.getElem?_extract] at hv;split at hv
             ·refine h5.2.2 i' x' j y v q1 q2 ?_;simp only [Nat.zero_add] at hv ⊢;rw [←q3];exact hv
             ·simp at hv
   case gq i sz idx off=>
    cases r with
    | gq hφ=>
      rename_i b;have ho:=F.objs i;cases hO:s.O i with
      | none=>rw [hO] at hx;simp at hx
      | some p=>
        rw [hO] at hx ho;cases p<;>simp only at hx<;>try (simp at hx;done)
        all_goals
         rename_i sz' els;cases hb:Nat.beq sz' sz with
         | false=>rw [hb] at hx;simp at hx
         | true=>
           have:=bQ hb;subst this
           rw [hb] at hx;simp only [cond_true] at hx;cases he:tX (Env.of P) t z sz' off idx els with
           | none=>rw [he] at hx;simp at hx
           | some p=>
             obtain ⟨y,cd⟩:=p;rw [he] at hx;simp only [Option.some.injEq] at hx;subst hx;rcases wS (by first | exact .inl ⟨_,ho⟩ | exact .inr ho) with ⟨h1,h2⟩ | ⟨b',c,ty,fz,h1,h3,h5⟩
             ·rw [h1] at hφ;cases hφ
             ·rw [h1] at hφ;injection hφ with hφ;subst hφ;obtain ⟨u,g1,g2⟩:=Io hz h3 h5 he hc;exact CU.pure g1 (.d g2)
theorem NM {κ:bn} {φ:bG} {w:World} {s:bP} {a:Act} (F:av κ φ w s a) {t:Nat} {x:RV} {v:Value} {res:bX}
 (hx:lM (Env.of P) s.O t x=some res) (hc:∀b∈res.conds,b=true) (r:bB κ φ s.O w.heap x v):Out P κ φ w s a res.val res.upd (Instr.loadAt t v):=by
 obtain ⟨h1,u,h2,h3⟩:=CV F hx hc r;rw [h1];exact Out.pure F h2 h3
end Go.Am
