/-
  Texts that the claim leans on: AmRef, AmRef2, AmRef3, AmRef4, AmEqb, AmIt.
-/
import Derived.Test.YtjoefbioobdinaaGreatDoorwc
import Derived.Laws.RangeString
namespace Go.Am
set_option linter.unusedSectionVars false
variable {P:Program} [Gl]
def bY (O:Tab) (i:Nat):Option (List RV):=
 match O i with
 | some (.box _ cs)=>some cs
 | some (.bW _ cs)=>some cs
 | _=>none
def wH (O:Tab) (i:Nat) (cs:List RV):av:=
 match O i with
 | some (.box ty _)=>.box ty cs
 | some (.bW ty _)=>.bW ty cs
 | _=>.gone
theorem qc {κ:bE} {φ:bP} {w:World} {s:cu} {a:Act} (F:aA κ φ w s a) {i:Nat} {cs:List RV} (h:bY s.O i=some cs) :
 ∃b c ty fz,φ i = .at b∧κ b = .own i∧w.heap[b]? = some (.cells c ty fz)∧uE fz c.size∧RL κ φ s.O w.heap c 0 cs∧((∃t,s.O i=some (.box t cs))→c.size=cs.length):=by
 unfold bY at h;have ho:=F.objs i;split at h
 ·rename_i t cs' he;injection h with h;subst h;rw [he] at ho;obtain ⟨b,c,h1,h2,h3,h4,h5,h6⟩:=ho;refine ⟨b,c,t,(0,0),h1,h2,h3,rM _,⟨by omega,fun j x v hx hv=>⟨h6 j x v hx (by simpa using hv),h5 v ?_⟩⟩,fun _=>h4⟩;exact Array.mem_iff_getElem?.2 ⟨_,hv⟩
 ·rename_i t cs' he;injection h with h;subst h;rw [he] at ho;obtain ⟨b,c,fz,h1,h2,h3,h4,h5⟩:=ho;exact ⟨b,c,t,fz,h1,h2,h3,h4.1,h5,fun ⟨t',e⟩=>by rw [he] at e;cases e⟩
 ·simp at h
theorem RL.splice {κ κ' : bE} {φ φ' : bP} {O O' : Tab} {h h' : Heap} (M:dS κ φ O h κ' φ' O' h') {c:Array Value} {cs ys:List RV} {o:Nat} {vs:List Value} (r:RL κ φ O h c 0 cs)
 (ho:o+ys.length≤cs.length) (hl:vs.length=ys.length) (hr:∀(j:Nat) (x:RV) (v:Value),ys[j]? = some x→vs[j]? = some v→bJ κ φ O h x v∧v.oneCell=true) :
 RL κ' φ' O' h' (eP c o vs) 0 (splice cs o ys):=by
 have h1:=r.1;refine ⟨by rw [gF _ _ _ ho,dV _ _ _ (by omega)];exact h1,fun j x v hx hv=>?_⟩;rw [jg _ _ _ ho] at hx;rw [Nat.zero_add,iE _ _ _ (by omega)] at hv
 have key:bJ κ φ O h x v∧v.oneCell=true:=by
  by_cases k1:j < o
  ·rw [if_pos k1] at hx hv;exact r.2 j x v hx (by simpa using hv)
  ·rw [if_neg k1] at hx hv;by_cases k2:j < o+ys.length
   ·rw [if_pos (by omega)] at hx hv;exact hr _ x v hx hv
   ·rw [if_neg (by omega)] at hx hv;exact r.2 j x v hx (by simpa using hv)
 exact ⟨key.1.mono M,key.2⟩
theorem lZ {κ:bE} {φ:bP} {w:World} {s:cu} {a:Act} (F:aA κ φ w s a) {i b:Nat} {cs ys:List RV} (h:bY s.O i=some cs) (hφ:φ i = .at b) {o:Nat} {vs:List Value}
 (ho:o+ys.length≤cs.length) (hl:vs.length=ys.length) (hr:∀(j:Nat) (x:RV) (v:Value),ys[j]? = some x→vs[j]? = some v→bJ κ φ s.O w.heap x v∧v.oneCell=true) (hone:∀v∈vs,v.oneCell=true) :
 ∃c ty fz,w.heap[b]? = some (.cells c ty fz)∧uE fz c.size∧o+vs.length≤c.size∧
  aA κ φ (World.row w b (.cells (eP c o vs) ty fz)) { s with O:=bF s.O i (some (wH s.O i (splice cs o ys))) } a∧
  dS κ φ s.O w.heap κ φ (bF s.O i (some (wH s.O i (splice cs o ys)))) (World.row w b (.cells (eP c o vs) ty fz)).heap∧Fr κ w κ (World.row w b (.cells (eP c o vs) ty fz)):=by
 obtain ⟨b',c,ty,fz,h1,h2,h3,h4,h5,h6⟩:=qc F h;rw [h1] at hφ;injection hφ with hφ;subst hφ;have hcl:=h5.1;have hsize:(eP c o vs).size=c.size:=dV _ _ _ (by omega);refine ⟨c,ty,fz,h3,h4,by omega,F.write h2 h1 (fun c0 Q9 Ra hc0=>by rw [h3] at hc0;injection hc0 with hc0;injection hc0 with e1 e2 e3;subst e1;subst e2;exact ⟨_,_,rfl,hsize⟩) (fun n hn=>?_) (fun M=>?_)⟩
 ·unfold bY at h;unfold wH at hn;split at h
  ·rename_i t cs' he;rw [he] at hn;simp [av.dB] at hn
  ·rename_i t cs' he;rw [he] at hn ⊢;injection h with h;subst h;simp only [av.dB,gF _ _ _ ho] at hn ⊢;exact hn
  ·simp at h
 ·have hs:=RL.splice M h5 ho hl hr;have ho':=F.objs i;unfold bY at h;generalize DL:wH s.O i (splice cs o ys)=ob at *;unfold wH at DL;split at h
  ·rename_i t cs' he;injection h with h;subst h;rw [he] at DL ho';simp only at DL;subst DL;obtain ⟨b2,c2,g1,g2,g3,g4,g5,g6⟩:=ho';rw [h1] at g1;injection g1 with g1;subst g1;rw [h3] at g3;injection g3 with g3;injection g3 with e1 e2 e3;subst e1;subst e2;subst e3;refine ⟨b',_,h1,h2,dL h3,by rw [hsize,gF _ _ _ ho];exact g4,fun v hv=>?_,fun j x v hx hv=>(hs.2 j x v hx (by simpa using hv)).1⟩;rcases xG hv with hv | hv
   ·exact g5 v hv
   ·exact hone v hv
  ·rename_i t cs' he;injection h with h;subst h;rw [he] at DL ho';simp only at DL;subst DL;obtain ⟨b2,c2,Qz,g1,g2,g3,g4,g5⟩:=ho';rw [h1] at g1;injection g1 with g1;subst g1;rw [h3] at g3;injection g3 with g3;injection g3 with e1 e2 e3;subst e1;subst e2;subst e3;exact ⟨b',_,_,h1,h2,dL h3,by rw [hsize];exact g4,hs⟩
  ·simp at h
theorem oP {κ:bE} {φ:bP} {w:World} {s:cu} {a:Act} (F:aA κ φ w s a) {i sz o len:Nat} {cap:Option Nat} {v:Value} {cs:List RV} (h:bY s.O i=some cs)
 (r:bJ κ φ s.O w.heap (.sl i sz o len cap) v):∃b o' eY c ty fz,v = .slice (some ⟨b,o',none⟩) len eY∧φ i = .at b∧κ b = .own i∧w.heap[b]? = some (.cells c ty fz)∧uE fz c.size∧RL κ φ s.O w.heap c 0 cs∧
   (o'=o∨eY=0)∧o'+eY*sz≤c.size∧len≤eY∧(∀k,cap=some k→eY=k)∧(cap=none→∀n,av.dB (s.O i)=some n→n≤o+eY*sz):=by
 obtain ⟨b',c,ty,fz,h1,h2,h3,h4,h5,h6⟩:=qc F h;cases r with
 | sl hφ hb ho hs hl hc hn=>
   rw [h1] at hφ;injection hφ with hφ;subst hφ;rw [h3] at hb;injection hb with hb;injection hb with e1 e2 e3;subst e1;exact ⟨b',_,_,c,ty,fz,rfl,h1,h2,h3,h4,h5,ho,hs,hl,hc,hn⟩
theorem RL.part {κ:bE} {φ:bP} {O:Tab} {h:Heap} {c:Array Value} {cs:List RV} (r:RL κ φ O h c 0 cs) {o n:Nat} (ho:o+n≤cs.length) :
 RL κ φ O h (c.extract o (o+n)) 0 ((cs.drop o).take n)∧(c.extract o (o+n)).size=n∧((cs.drop o).take n).length=n:=by
 have h1:=r.1;have hl:((cs.drop o).take n).length=n:=by simp;omega
 have hsz:(c.extract o (o+n)).size=n:=by simp;omega
 refine ⟨⟨by omega,fun j x v hx hv=>?_⟩,hsz,hl⟩;rw [List.getElem?_take] at hx;split at hx
 ·rw [List.getElem?_drop] at hx;rw [Nat.zero_add,Array.getElem?_extract] at hv;split at hv
  ·exact r.2 (o+j) x v hx (by simpa using hv)
  ·simp at hv
 ·simp at hx
def I9 (s:List UInt8):List RV:=s.map fun b=>.d (.int .u8 b.toNat)
def jD (O:Tab) (z:Nat) (x:RV):Option (Nat×List RV):=
 match x with
 | .d (.aC 0 [] true)=>some (0,[])
 | .d (.str s)=>bif Nat.beq z 1 then some (s.length,I9 s) else none
 | .sl i sz o len _=>match bY O i with
   | some cs=>bif Nat.beq sz z&&Nat.ble (o+len*sz) cs.length then some (len,(cs.drop o).take (len*sz)) else bif Nat.beq len 0 then some (0,[]) else none
   | none=>none
 | _=>none
theorem Ht (s:List UInt8) (i:Nat) (x:RV) (h:(I9 s)[i]? = some x):∃b,s[i]? = some b∧x = .d (.int .u8 b.toNat):=by
 simp only [I9,List.getElem?_map] at h;cases e:s[i]? with
 | none=>rw [e] at h;simp at h
 | some b=>rw [e] at h;simp at h;exact ⟨b,rfl,h.symm⟩
theorem RL.nil {κ:bE} {φ:bP} {O:Tab} {h:Heap}:RL κ φ O h #[] 0 []:=⟨by simp,by simp⟩
theorem vS {κ:bE} {φ:bP} {w:World} {s:cu} {a:Act} (F:aA κ φ w s a) {x:RV} {v:Value} {z m:Nat} {xs:List RV}
 (hx:jD s.O z x=some (m,xs)) (r:bJ κ φ s.O w.heap x v) :
 xs.length=m*z∧(∀w' : World,w'.heap=w.heap→(Builtin.lenOf v).run P w' = .ok m w')∧
 ∀k,k≤m→∃X,(∀w' : World,w'.heap=w.heap→(Builtin.firstCells z k v).run P w' = .ok X w')∧X.size=k*z∧RL κ φ s.O w.heap X 0 (xs.take (k*z)):=by
 unfold jD at hx;split at hx
 ·injection hx with hx;injection hx with e1 e2;subst e1;subst e2;cases r with
  | d hr=>
    cases hr with
    | iU hf=>
      refine ⟨by simp,fun w' _=>rfl,fun k hk=>⟨#[],fun w' _=>?_,by have:k=0:=(by omega);subst this;simp,by simpa using RL.nil⟩⟩
      have:=(hf rfl).2 rfl;subst this;rfl
    | aC _ _ hf _ _ _ _=>have:=(hf rfl).2;omega
 ·rename_i str;cases hz:Nat.beq z 1 with
  | false=>rw [hz] at hx;simp at hx
  | true=>
    have:=cB hz;subst this
    rw [hz] at hx;simp only [cond_true,Option.some.injEq,Prod.mk.injEq] at hx;obtain ⟨rfl,rfl⟩:=hx;cases r with
    | d hr=>
      cases hr;refine ⟨by simp [I9],fun w' _=>by simp [Builtin.lenOf,ByteArray.size],fun k hk=>⟨((str.take k).toArray.map fun b=>Value.int .u8 b.toNat),fun w' _=>?_,by simp;omega,⟨by simp [I9],fun j x v hx hv=>?_⟩⟩⟩
      ·simp only [Builtin.firstCells]
       have:((⟨str.toArray⟩:ByteArray).extract 0 k).data=(str.take k).toArray:=by
        simp [ByteArray.data_extract]
       rw [this];rfl
      ·rw [Nat.mul_one,List.getElem?_take] at hx;split at hx
       ·obtain ⟨b,hb,rfl⟩:=Ht str j x hx;rw [Nat.zero_add] at hv;simp only [Array.getElem?_map,List.getElem?_toArray,List.getElem?_take] at hv;rw [if_pos (by assumption),hb] at hv;simp at hv;subst hv;exact ⟨.d (.int _ _),rfl⟩
       ·simp at hx
 ·rename_i i sz o len cap;cases hc:bY s.O i with
  | none=>rw [hc] at hx;simp at hx
  | some cs=>
    rw [hc] at hx;simp only at hx;obtain ⟨b,o',eY,c,ty,fz,rfl,h1,h2,h3,h4,h5,h6,h7,h8,h9,h10⟩:=oP F hc r;cases hg:(Nat.beq sz z&&Nat.ble (o+len*sz) cs.length) with
    | true=>
      rw [hg] at hx;simp only [cond_true,Option.some.injEq,Prod.mk.injEq] at hx;obtain ⟨rfl,rfl⟩:=hx;simp only [Bool.and_eq_true] at hg
      have:=cB hg.1;subst this
      have g2:=Nat.le_of_ble_eq_true hg.2;refine ⟨by simp;omega,fun w' _=>rfl,fun k hk=>?_⟩;have hkz:=Nat.mul_le_mul_right sz hk;have hcl:=h5.1;rcases h6 with rfl | h6
      ·obtain ⟨p1,p2,p3⟩:=h5.part (o:=o') (n:=k*sz) (by omega);refine ⟨c.extract o' (o'+k*sz),fun w' hw=>?_,p2,?_⟩
       ·simp only [Builtin.firstCells];exact dU (by rw [hw];exact h3) (by omega)
       ·rw [List.take_take,Nat.min_eq_left hkz];exact p1
      ·have:k=0:=by omega
       subst this;refine ⟨#[],fun w' _=>?_,by simp,by simpa using RL.nil⟩;simp only [Builtin.firstCells,Nat.zero_mul,loadCells,loadCellsFrom];rfl
    | false=>
      rw [hg] at hx;simp only [cond_false] at hx;cases hl:Nat.beq len 0 with
      | false=>rw [hl] at hx;simp at hx
      | true=>
        have:=cB hl;subst this
        rw [hl] at hx;simp only [cond_true,Option.some.injEq,Prod.mk.injEq] at hx;obtain ⟨rfl,rfl⟩:=hx;refine ⟨by simp,fun w' _=>rfl,fun k hk=>⟨#[],fun w' _=>?_,by have:k=0:=(by omega);subst this;simp,by simpa using RL.nil⟩⟩
        have:k=0:=by omega
        subst this;simp only [Builtin.firstCells,Nat.zero_mul,loadCells,loadCellsFrom];rfl
 ·simp at hx
def qd (E:Env) (O:Tab) (t:Nat) (a:RV):Option dz:=
 match E.size t,a with
 | some z,.ptr i off=>match bY O i with
   | some cs=>bif Nat.ble (off+z) cs.length then
      bif E.isAgg t then some { val:=qU ((cs.drop off).take z) } else bif Nat.beq z 1 then some { val:=cs.getD off .bot } else none
     else none
   | _=>none
 | _,_=>none
def kF (E:Env) (O:Tab) (t:Nat) (a v:RV):Option dz:=
 match E.size t,a with
 | some z,.ptr i off=>match bY O i with
   | some cs=>bif dO v&&Nat.beq v.cells.length z&&Nat.ble (off+z) cs.length then some { val:=.bot,upd:=[(i,wH O i (splice cs off v.cells))] } else none
   | _=>none
 | _,_=>none
def nA (E:Env) (O:Tab) (sl t:Nat) (v:RV):Option dz:=
 match O sl,E.size t with
 | none,some z=>bif dO v&&Nat.beq v.cells.length z then some { val:=.ptr sl 0,upd:=[(sl,.box t v.cells)] } else none
 | _,_=>none
def jP (sz:Nat):Nat→List (Nat×RV)→Option (List RV)
 | _,[]=>some []
 | k,(i,x)::r=>bif Nat.beq i k&&Nat.beq x.cells.length sz&&dO x then
    match jP sz (k+1) r with
    | some l=>some (x.cells++l)
    | none=>none
   else none
def jZ (E:Env) (O:Tab) (sl t len:Nat) (parts:List (Nat×RV)):Option dz:=
 match O sl,E.und t with
 | none,some (.slice e)=>match E.size e,E.zero e with
   | some sz,some _=>bif Nat.beq parts.length len&&Nat.ble (len*sz) 1000000 then
      match jP sz 0 parts with
      | some cs=>some { val:=.sl sl sz 0 len (some len),upd:=[(sl,.bW e cs)] }
      | none=>none
     else none
   | _,_=>none
 | _,_=>none
theorem Kv {κ:bE} {φ:bP} {w:World} {s:cu} {a:Act} (F:aA κ φ w s a) {t:Nat} {x:RV} {v:Value} {res:dz}
 (hx:qd (Env.of P) s.O t x=some res) (r:bJ κ φ s.O w.heap x v):Out P κ φ w s a res.val res.upd (Instr.loadAt t v):=by
 unfold qd at hx;split at hx
 ·rename_i z i off hz;split at hx
  ·rename_i cs hO;cases hg:Nat.ble (off+z) cs.length with
   | false=>rw [hg] at hx;simp at hx
   | true=>
     rw [hg] at hx;simp only [cond_true] at hx;have g1:=Nat.le_of_ble_eq_true hg;obtain ⟨b,c,ty',fz,h1,h2,h3,h4,h5,_⟩:=qc F hO;cases r with
     | ptr hφ=>
     rw [h1] at hφ;injection hφ with hφ;subst hφ;have hcl:=h5.1;cases ha:(Env.of P).isAgg t with
     | true=>
       rw [ha] at hx;simp only [cond_true,Option.some.injEq] at hx;subst hx;obtain ⟨p1,p2,p3⟩:=h5.part (o:=off) (n:=z) g1;refine Out.pure F (iH hz h3 (by omega) (fun e=>by rw [ha] at e;cases e)) ?_;rw [ha];simp only [if_true];refine mZ (by omega) (fun u hu=>?_) (fun j x u hx hu=>(p1.2 j x u hx (by simpa using hu)).1);obtain ⟨j,hj⟩:=Array.mem_iff_getElem?.1 hu;have hlt:=(Array.getElem?_eq_some_iff.1 hj).1;have hlt2:j < ((cs.drop off).take z).length:=by omega
       exact (p1.2 j _ u (List.getElem?_eq_getElem hlt2) (by simpa using hj)).2
     | false=>
       rw [ha] at hx;simp only [cond_false] at hx;cases hz1:Nat.beq z 1 with
       | false=>rw [hz1] at hx;simp at hx
       | true=>
         have:=cB hz1;subst this
         rw [hz1] at hx;simp only [cond_true,Option.some.injEq] at hx;subst hx;refine Out.pure F (iH hz h3 (by omega) (fun _=>rfl)) ?_;rw [ha];simp only [Bool.false_eq_true,if_false];have hlt:off < cs.length:=by omega
         have hlt2:off < c.size:=by omega
         have e1:cs[off]? = some (cs.getD off .bot):=by simp [List.getD,hlt]
         have e2:c[off]? = some (c.getD off undef):=by simp [Array.getD,hlt2]
         exact (h5.2 off _ _ e1 (by simpa using e2)).1
  ·simp at hx
 ·simp at hx
theorem Ja {κ:bE} {φ:bP} {w:World} {s:cu} {a:Act} (F:aA κ φ w s a) {t:Nat} {x y:RV} {v u:Value} {res:dz}
 (hx:kF (Env.of P) s.O t x y=some res) (r:bJ κ φ s.O w.heap x v) (r2:bJ κ φ s.O w.heap y u):J8 P κ φ w s a res.upd (Instr.storeAt t v u):=by
 unfold kF at hx;split at hx
 ·rename_i z i off hz;split at hx
  ·rename_i cs hc;cases hg:(dO y&&Nat.beq y.cells.length z&&Nat.ble (off+z) cs.length) with
   | false=>rw [hg] at hx;simp at hx
   | true=>
     rw [hg] at hx;simp only [cond_true,Option.some.injEq] at hx;subst hx;simp only [Bool.and_eq_true] at hg;obtain ⟨⟨g1,g2⟩,g3⟩:=hg;have g2:=cB g2;have g3:=Nat.le_of_ble_eq_true g3;cases r with
     | ptr hφ=>
     obtain ⟨c1,c2,c3⟩:=jC r2 g1
     obtain ⟨c,ty',fz,e1,e2,e3,e4,e5,e6⟩:=lZ F hc hφ (o:=off) (vs:=u.cells.toList) (ys:=y.cells) (by omega) (by simpa using c1) (fun j x' v' hx' hv'=>⟨c3 j x' v' hx' (by simpa using hv'),c2 v' (by
      have:=List.mem_iff_getElem?.2 ⟨j,hv'⟩;simpa using this)⟩) (fun v' hv'=>c2 v' (by simpa using hv'))
     have hvl:u.cells.toList.length=z:=by simp;omega
     exact ⟨_,κ,φ,kC hz e1 e2 (by omega) (by omega) c2,e4,e6,e5.kp⟩
  ·simp at hx
 ·simp at hx
theorem zY {κ:bE} {φ:bP} {w:World} {s:cu} {a:Act} (F:aA κ φ w s a) {sl t:Nat} {x:RV} {v:Value} {res:dz}
 (hx:nA (Env.of P) s.O sl t x=some res) (r:bJ κ φ s.O w.heap x v):Out P κ φ w s a res.val res.upd (do pure (.pointer (some (←newVar t v)))):=by
 unfold nA at hx;split at hx
 ·rename_i z hO hz;cases hg:(dO x&&Nat.beq x.cells.length z) with
  | false=>rw [hg] at hx;simp at hx
  | true=>
    rw [hg] at hx;simp only [cond_true,Option.some.injEq] at hx;subst hx;simp only [Bool.and_eq_true] at hg;obtain ⟨c1,c2,c3⟩:=jC r hg.1
    have hrun:(do pure (Value.pointer (some (←newVar t v))):Sem Value).run P w = .ok (.pointer (some ⟨w.heap.size,0,none⟩)) { w with heap:=w.heap.push (.cells v.cells t (0,0)) }:=by
     simp [xH]
    obtain ⟨q1,q2,q3⟩:=F.alloc (i:=sl) (p:=.box t x.cells) (o:=.cells v.cells t (0,0)) (w':={ w with heap:=w.heap.push (.cells v.cells t (0,0)) }) rfl hO
     (fun M=>⟨_,_,aS _ _ _,cZ _ _ _,aW _ _,c1,c2,fun j x' v' hx' hv'=>(c3 j x' v' hx' hv').mono M⟩)
    exact ⟨_,_,_,_,hrun,q1,.ptr (aS _ _ _),q3,q2.kp⟩
 ·simp at hx
theorem sP {κ:bE} {φ:bP} {O:Tab} {h:Heap} (sz:Nat):∀(k:Nat) (ps:List (Nat×RV)) (cs:List RV) (pv:List (Nat×Value)),jP sz k ps=some cs→pv.length=ps.length→
 (∀(i:Nat) (p:Nat×RV) (q:Nat×Value),ps[i]? = some p→pv[i]? = some q→p.1=q.1∧bJ κ φ O h p.2 q.2)→
 cs.length=ps.length*sz∧(∀(i:Nat) (q:Nat×Value),pv[i]? = some q→q.1=k+i∧q.2.cells.size=sz)∧(pv.flatMap fun q=>q.2.cells.toList).length=cs.length∧
 (∀(j:Nat) (x:RV) (v:Value),cs[j]? = some x→(pv.flatMap fun q=>q.2.cells.toList)[j]? = some v→bJ κ φ O h x v∧v.oneCell=true)
 | k,[],cs,pv,hp,hl,_=>by
   simp [jP] at hp;subst hp
   have:pv=[]:=List.eq_nil_of_length_eq_zero (by simpa using hl)
   subst this;simp
 | k,(i,x)::ps,cs,[],hp,hl,_=>by simp at hl
 | k,(i,x)::ps,cs,(i',v)::pv,hp,hl,hr=>by
   simp only [jP] at hp;cases hg:(Nat.beq i k&&Nat.beq x.cells.length sz&&dO x) with
   | false=>rw [hg] at hp;simp at hp
   | true=>
     rw [hg] at hp;simp only [cond_true] at hp;simp only [Bool.and_eq_true] at hg;obtain ⟨⟨g1,g2⟩,g3⟩:=hg;have g1:=cB g1;have g2:=cB g2;cases hq:jP sz (k+1) ps with
     | none=>rw [hq] at hp;simp at hp
     | some l=>
       rw [hq] at hp;simp only [Option.some.injEq] at hp;subst hp;obtain ⟨e1,e2⟩:=hr 0 (i,x) (i',v) rfl rfl;simp only at e1 e2;obtain ⟨c1,c2,c3⟩:=jC e2 g3;obtain ⟨d1,d2,d3,d4⟩:=sP (κ:=κ) (φ:=φ) (O:=O) (h:=h) sz (k+1) ps l pv hq (by simpa using hl) (fun i p q hp hq=>hr (i+1) p q (by simpa using hp) (by simpa using hq));have hvl:v.cells.toList.length=x.cells.length:=by simpa using c1
       refine ⟨by simp only [List.length_append,List.length_cons,Nat.add_mul,d1,g2];omega,fun j q hj=>?_,by simp only [List.flatMap_cons,List.length_append,d3,hvl],fun j y u hy hu=>?_⟩
       ·cases j with
        | zero=>simp at hj;subst hj;simp only;exact ⟨by omega,by omega⟩
        | succ j=>have:=d2 j q (by simpa using hj);omega
       ·simp only [List.flatMap_cons] at hu;by_cases hj:j < x.cells.length
        ·rw [List.getElem?_append_left hj] at hy;rw [List.getElem?_append_left (by omega)] at hu;exact ⟨c3 j y u hy (by simpa using hu),c2 u (by have:=List.mem_iff_getElem?.2 ⟨j,hu⟩;simpa using this)⟩
        ·rw [List.getElem?_append_right (by omega)] at hy;rw [List.getElem?_append_right (by omega),hvl] at hu;exact d4 _ y u hy hu
theorem xR {κ:bE} {φ:bP} {w:World} {s:cu} {a:Act} (F:aA κ φ w s a) {sl t len:Nat} {parts:List (Nat×RV)} {pv:Array (Nat×Value)} {res:dz}
 (hx:jZ (Env.of P) s.O sl t len parts=some res) (hl:pv.size=parts.length)
 (hr:∀(k:Nat) (p:Nat×RV) (q:Nat×Value),parts[k]? = some p→pv[k]? = some q→p.1=q.1∧bJ κ φ s.O w.heap p.2 q.2) :
 Out P κ φ w s a res.val res.upd (Instr.buildSlice t len pv):=by
 unfold jZ at hx;split at hx
 ·rename_i e hO hu;split at hx
  ·rename_i sz zd hz Dk;cases hg:(Nat.beq parts.length len&&Nat.ble (len*sz) 1000000) with
   | false=>rw [hg] at hx;simp at hx
   | true=>
     rw [hg] at hx;simp only [cond_true] at hx;simp only [Bool.and_eq_true] at hg;have g1:=cB hg.1;have g3:=Nat.le_of_ble_eq_true hg.2;cases hp:jP sz 0 parts with
     | none=>rw [hp] at hx;simp at hx
     | some cs=>
       rw [hp] at hx;simp only [Option.some.injEq] at hx;subst hx;obtain ⟨d1,d2,d3,d4⟩:=sP (κ:=κ) (φ:=φ) (O:=s.O) (h:=w.heap) sz 0 parts cs pv.toList hp (by simpa using hl) (fun i p q hp hq=>hr i p q hp (by simpa using hq));obtain ⟨zv,hzv,_⟩:=fC Dk w
       have DF:∀B:Array Value,B.size=len*sz→Instr.fill (fun i=>some (i*sz,sz)) B pv.toList=some (pv.toList.flatMap fun q=>q.2.cells.toList).toArray:=by
        intro B hB
        have:=xJ sz pv.toList 0 B (fun i q hq=>by have:=d2 i q hq;omega) (by rw [hB];simp only [Nat.zero_add,Array.length_toList,hl,g1];exact Nat.le_refl _)
        rw [this];simp only [eP,splice,Nat.zero_mul,List.take_zero,List.nil_append,Nat.zero_add];rw [List.drop_eq_nil_of_le (by rw [d3,d1,g1,Array.length_toList,hB];exact Nat.le_refl _)];simp
       have hrun:(Instr.buildSlice t len pv).run P w = .ok (.slice (some ⟨w.heap.size,0,none⟩) len len) { w with heap:=w.heap.push (.cells (pv.toList.flatMap fun q=>q.2.cells.toList).toArray e (0,0)) }:=by
        simp only [Instr.buildSlice,Sem.run_bind,aL hu,Result.andThen_ok,aY hz]
        rw [if_neg (show ¬(len*sz > 2 ^ 24) by have:(2:Nat) ^ 24=16777216:=by decide
                                               omega)]
        by_cases h0:len*sz=0
        ·rw [if_pos h0];simp only [Sem.run_bind,Sem.run_pure,Result.andThen_ok];rw [DF _ (by simp)];simp [newRow]
        ·rw [if_neg h0];simp only [Sem.run_bind,hzv,Sem.run_pure,Result.andThen_ok];rw [DF _ (by simp)];simp [newRow]
       obtain ⟨q1,q2,q3⟩:=F.alloc (i:=sl) (p:=.bW e cs) (o:=.cells (pv.toList.flatMap fun q=>q.2.cells.toList).toArray e (0,0))
        (w':={ w with heap:=w.heap.push (.cells (pv.toList.flatMap fun q=>q.2.cells.toList).toArray e (0,0)) }) rfl hO
        (fun M=>⟨_,_,(0,0),aS _ _ _,cZ _ _ _,aW _ _,Dw _ _,by simp [d3],fun j x v hx hv=>by
          have:=d4 j x v hx (by simpa using hv)
          exact ⟨this.1.mono M,this.2⟩⟩)
       refine ⟨_,_,_,iG φ sl (.at w.heap.size),hrun,q1,?_,q3,q2.kp⟩;exact .sl (aS _ _ _) (aW _ _) (.inl rfl) (by simp [d3,d1,g1]) (Nat.le_refl _) (fun k e=>by injection e) (fun e=>by cases e)
  ·simp at hx
 ·simp at hx
def zZ (O:Tab) (i sz o len:Nat) (cap:Option Nat):Nat:=
 match cap with
 | some k=>k
 | none=>match O i with
   | some (.bW _ cs)=>bif Nat.ble len ((cs.length-o) / sz) then (cs.length-o) / sz else len
   | _=>len
def Bw (L len:Nat) (l h m:Option Int):List Bool:=
 (match m with
   | none=>match h with
     | none=>[]
     | some h=>[decide (0≤h∧h≤(L:Int))]
   | some m=>match h with
     | none=>[false]
     | some h=>[decide (0≤m∧m≤(L:Int)),decide (0≤h∧h≤((m.toNat:Nat):Int))]) ++
 (match l with
   | none=>[]
   | some l=>[decide (0≤l∧l≤((dK len h:Nat):Int))])
def kR (cap:Nat):Option Int→Nat
 | none=>cap
 | some m=>m.toNat
theorem oQ {isSlice:Bool} {L len cap:Nat} {lo hi mx:Option Int} {xM hiv JY:Option Value}
 (hlo:(lo=none∧xM=none)∨∃k m,lo=some m∧xM=some (.int k m)) (hhi:(hi=none∧hiv=none)∨∃k m,hi=some m∧hiv=some (.int k m))
 (hmx:(mx=none∧JY=none)∨∃k m,mx=some m∧JY=some (.int k m))
 (hc:∀b∈Bw L len lo hi mx,b=true) (hle:len≤cap) (hL:L≤cap) (w:World) :
 (Instr.sliceBounds isSlice len cap xM hiv JY).run P w = .ok (bO lo,dK len hi,kR cap mx) w∧bO lo≤dK len hi∧dK len hi≤kR cap mx∧kR cap mx≤cap:=by
 have first:(mx=none∧hi=none)∨(mx=none∧∃h,hi=some h∧0≤h∧h≤(L:Int))∨(∃m h,mx=some m∧hi=some h∧(0≤m∧m≤(L:Int))∧(0≤h∧h≤((m.toNat:Nat):Int))):=by
  cases mx with
  | none=>cases hi with
    | none=>exact .inl ⟨rfl,rfl⟩
    | some h=>exact .inr (.inl ⟨rfl,h,rfl,by simpa using hc (decide (0≤h∧h≤(L:Int))) (by simp [Bw])⟩)
  | some m=>cases hi with
    | none=>exact absurd (hc false (by simp [Bw])) (by simp)
    | some h=>exact .inr (.inr ⟨m,h,rfl,rfl,by simpa using hc (decide (0≤m∧m≤(L:Int))) (by simp [Bw]),by simpa using hc (decide (0≤h∧h≤((m.toNat:Nat):Int))) (by simp [Bw])⟩)
 have last:lo=none∨∃l,lo=some l∧0≤l∧l≤((dK len hi:Nat):Int):=by
  cases lo with
  | none=>exact .inl rfl
  | some l=>exact .inr ⟨l,rfl,by simpa using hc (decide (0≤l∧l≤((dK len hi:Nat):Int))) (by simp [Bw])⟩
 have hb:bO lo≤dK len hi:=by
  rcases last with rfl | ⟨l,rfl,h1,h2⟩
  ·simp [bO]
  ·simp only [bO];omega
 have hm:dK len hi≤kR cap mx∧kR cap mx≤cap:=by
  rcases first with ⟨rfl,rfl⟩ | ⟨rfl,h,rfl,h1,h2⟩ | ⟨m,h,rfl,rfl,h1,h2⟩
  ·simp only [dK,kR];omega
  ·simp only [dK,kR];omega
  ·simp only [dK,kR];omega
 refine ⟨?_,hb,hm.1,hm.2⟩;rcases first with ⟨rfl,rfl⟩ | ⟨rfl,h,rfl,h1,h2⟩ | ⟨m,h,rfl,rfl,h1,h2⟩
 ·rcases hmx with ⟨_,rfl⟩ | ⟨_,_,e,_⟩
  ·rcases hhi with ⟨_,rfl⟩ | ⟨_,_,e,_⟩
   ·simp only [Instr.sliceBounds,Sem.run_bind,Sem.run_pure,Result.andThen_ok,dK,kR];rcases hlo with ⟨rfl,rfl⟩ | ⟨kl,l,rfl,rfl⟩
    ·simp [bO]
    ·rcases last with h' | ⟨l',h',q1,q2⟩
     ·cases h'
     ·injection h' with h';subst h';simp only [dK] at q2;simp only [Sem.run_bind,fU (P:=P) (k:=kl) ⟨q1,q2⟩,Result.andThen_ok,Sem.run_pure,bO]
   ·cases e
  ·cases e
 ·rcases hmx with ⟨_,rfl⟩ | ⟨_,_,e,_⟩
  ·rcases hhi with ⟨e,_⟩ | ⟨k,_,e,rfl⟩
   ·cases e
   ·injection e with e;subst e;simp only [Instr.sliceBounds,Sem.run_bind,Sem.run_pure,Result.andThen_ok,dK,kR,fU (P:=P) (k:=k) (show 0≤h∧h≤(cap:Int) by omega)];rcases hlo with ⟨rfl,rfl⟩ | ⟨kl,l,rfl,rfl⟩
    ·simp [bO]
    ·rcases last with h' | ⟨l',h',q1,q2⟩
     ·cases h'
     ·injection h' with h';subst h';simp only [dK] at q2;simp only [Sem.run_bind,fU (P:=P) (k:=kl) ⟨q1,q2⟩,Result.andThen_ok,Sem.run_pure,bO]
  ·cases e
 ·rcases hmx with ⟨e,_⟩ | ⟨km,_,e,rfl⟩
  ·cases e
  ·injection e with e;subst e;rcases hhi with ⟨e,_⟩ | ⟨k,_,e,rfl⟩
   ·cases e
   ·injection e with e;subst e;simp only [Instr.sliceBounds,Sem.run_bind,Result.andThen_ok,dK,kR,fU (P:=P) (k:=km) (show 0≤m∧m≤(cap:Int) by omega),fU (P:=P) (k:=k) h2];rcases hlo with ⟨rfl,rfl⟩ | ⟨kl,l,rfl,rfl⟩
    ·simp [bO]
    ·rcases last with h' | ⟨l',h',q1,q2⟩
     ·cases h'
     ·injection h' with h';subst h';simp only [dK] at q2;simp only [Sem.run_bind,fU (P:=P) (k:=kl) ⟨q1,q2⟩,Result.andThen_ok,Sem.run_pure,bO]
def capOf (cap:Option Nat) (l:Nat):Option Int→Option Nat
 | some m=>some (m.toNat-l)
 | none=>match cap with
   | some k=>some (k-l)
   | none=>none
def nC (E:Env) (O:Tab) (t:Nat) (x:RV) (lo hi mx:Option RV):Option dz:=
 match oM lo,oM hi,oM mx with
 | some l,some h,some m=>match E.und t,x with
   | some (.slice e),.sl i sz o len cap=>match E.size e with
     | some z=>bif Nat.beq sz z&&(bY O i).isSome then some { val:=.sl i sz (o+bO l*sz) (dK len h-bO l) (capOf cap (bO l) m),conds:=Bw (zZ O i sz o len cap) len l h m } else none
     | none=>none
   | some (.slice e),.d (.aC 0 [] true)=>match E.size e with
     | some _=>some { val:=.d (.aC 0 [] true),conds:=Bw 0 0 l h m }
     | none=>none
   | some (.array n e),.ptr i off=>match bY O i,E.size e with
     | some cs,some z=>bif Nat.ble (off+n*z) cs.length then some { val:=.sl i z (off+bO l*z) (dK n h-bO l) (some (kR n m-bO l)),conds:=Bw n n l h m } else none
     | _,_=>none
   | _,_=>none
 | _,_,_=>none
theorem Kw {κ:bE} {φ:bP} {w:World} {s:cu} {i sz o len:Nat} {cap:Option Nat} {v:Value} (r:bJ κ φ s.O w.heap (.sl i sz o len cap) v) :
 ∃a eY,v = .slice a len eY∧zZ s.O i sz o len cap≤eY:=by
 cases r with
 | sl hφ hb ho hs hl hc hn=>
   rename_i b o' eY c ty fz;refine ⟨_,_,rfl,?_⟩;unfold zZ;cases cap with
   | some k=>simp only;rw [hc k rfl];exact Nat.le_refl _
   | none=>
     simp only;split
     ·rename_i ty' cs hO
      have:=hn rfl cs.length (by rw [hO];rfl)
      cases hb:Nat.ble len ((cs.length-o) / sz) with
      | false=>exact hl
      | true=>
        simp only [cond_true];by_cases hz:sz=0
        ·subst hz;simp
        ·exact Nat.div_le_of_le_mul (by rw [Nat.mul_comm];omega)
     ·exact hl
theorem Jb {κ:bE} {φ:bP} {w:World} {s:cu} {a:Act} (F:aA κ φ w s a) {t:Nat} {x:RV} {lo hi mx:Option RV} {v:Value} {xM hiv JY:Option Value} {res:dz}
 (hx:nC (Env.of P) s.O t x lo hi mx=some res) (hc:∀b∈res.conds,b=true) (r:bJ κ φ s.O w.heap x v)
 (YM:ze κ φ s.O w.heap lo xM) (YN:ze κ φ s.O w.heap hi hiv) (YO:ze κ φ s.O w.heap mx JY) :
 Out P κ φ w s a res.val res.upd (Instr.sliceAt t v xM hiv JY):=by
 unfold nC at hx;split at hx
 ·rename_i l h m hl hh hm;have vl:=jO hl YM;have vh:=jO hh YN;have vm:=jO hm YO;split at hx
  ·rename_i e i sz o len cap hu;cases hz:(Env.of P).size e with
   | none=>rw [hz] at hx;simp at hx
   | some z=>
     rw [hz] at hx;simp only at hx;cases hb:(Nat.beq sz z&&(bY s.O i).isSome) with
     | false=>rw [hb] at hx;simp at hx
     | true=>
       rw [hb] at hx;simp only [cond_true,Option.some.injEq] at hx;subst hx;simp only [Bool.and_eq_true] at hb
       have:=cB hb.1;subst this
       obtain ⟨a1,abm,e1,hL⟩:=Kw r;cases r with
       | sl hφ hb ho hs hle hcc hn=>
         rename_i b o' eY c ty fz;injection e1 with e1 e2 e3;subst e3;obtain ⟨b1,b2,b3,b4⟩:=oQ (P:=P) (isSlice:=true) vl vh vm hc hle hL w
         have hrun:(Instr.sliceAt t (.slice (some ⟨b,o',none⟩) len eY) xM hiv JY).run P w =
          .ok (.slice (some ⟨b,(if kR eY m=bO l then o' else o'+bO l*sz),none⟩) (dK len h-bO l) (kR eY m-bO l)) w:=by
          simp only [Instr.sliceAt,Instr.slice,Sem.run_bind,aL hu,Result.andThen_ok,b1,aY hz,Sem.run_pure,Option.map_some,gW]
          split<;>rfl
         refine Out.pure F hrun ?_;have hmz:=Nat.mul_le_mul_right sz b4;have hlz:=Nat.mul_le_mul_right sz (show bO l≤kR eY m by omega);refine .sl hφ hb ?_ ?_ (by omega) (fun k hk=>?_) (fun hk n hlen=>?_)
         ·by_cases hne:kR eY m=bO l
          ·right;omega
          ·left;rw [if_neg hne];rcases ho with rfl | ho
           ·rfl
           ·omega
         ·rw [Nat.sub_mul];split
          ·rename_i he;rw [he];omega
          ·omega
         ·cases m with
          | some m=>simp only [capOf,Option.some.injEq] at hk;subst hk;simp [kR]
          | none=>
            cases cap with
            | none=>simp [capOf] at hk
            | some k0=>simp only [capOf,Option.some.injEq] at hk;subst hk;simp [kR,hcc k0 rfl]
         ·cases m with
          | some m=>simp [capOf] at hk
          | none=>
            cases cap with
            | some k0=>simp [capOf] at hk
            | none=>
              have:=hn rfl n hlen
              simp only [kR] at hlz ⊢;rw [Nat.sub_mul];omega
  ·rename_i e hu;cases hz:(Env.of P).size e with
   | none=>rw [hz] at hx;simp at hx
   | some z=>
     rw [hz] at hx;simp only [Option.some.injEq] at hx;subst hx
     have hv:v = .slice none 0 0:=by
      cases r with
      | d hr=>
      cases hr with
      | iU hf=>have:=hf rfl;rw [this.1,this.2 rfl]
      | aC _ _ hf _ _ _ _=>have:=(hf rfl).2;omega
     subst hv;obtain ⟨b1,b2,b3,b4⟩:=oQ (P:=P) (isSlice:=true) (cap:=0) vl vh vm hc (Nat.le_refl _) (Nat.le_refl _) w
     have hrun:(Instr.sliceAt t (.slice none 0 0) xM hiv JY).run P w = .ok (.slice none 0 0) w:=by
      simp only [Instr.sliceAt,Instr.slice,Sem.run_bind,aL hu,Result.andThen_ok,b1,aY hz,Sem.run_pure,Option.map_none];rw [show dK 0 h-bO l=0 by omega,show kR 0 m-bO l=0 by omega]
      split<;>rfl
     exact Out.pure F hrun (.d (.iU (fun _=>⟨rfl,fun _=>rfl⟩)))
  ·rename_i n e i off hu;split at hx
   ·rename_i cs z hcs hz;cases hg:Nat.ble (off+n*z) cs.length with
    | false=>rw [hg] at hx;simp at hx
    | true=>
      rw [hg] at hx;simp only [cond_true,Option.some.injEq] at hx;subst hx;have g1:=Nat.le_of_ble_eq_true hg;obtain ⟨b',c,ty,fz,h1,h2,h3,h4,h5,_⟩:=qc F hcs;have hcl:=h5.1;cases r with
      | ptr hφ=>
        rename_i b;have hφ':=hφ;rw [h1] at hφ';injection hφ' with hφ';subst hφ';obtain ⟨b1,b2,b3,b4⟩:=oQ (P:=P) (isSlice:=false) (cap:=n) vl vh vm hc (Nat.le_refl _) (Nat.le_refl _) w
        have hrun:(Instr.sliceAt t (.pointer (some ⟨b',off,none⟩)) xM hiv JY).run P w =
         .ok (.slice (some ⟨b',(if kR n m=bO l then off else off+bO l*z),none⟩) (dK n h-bO l) (kR n m-bO l)) w:=by
         simp only [Instr.sliceAt,Sem.run_bind,aL hu,Result.andThen_ok,Instr.sureAddr,Sem.run_pure,b1,aY hz,gW]
         split<;>rfl
        refine Out.pure F hrun ?_;have hmz:=Nat.mul_le_mul_right z b4;have hlz:=Nat.mul_le_mul_right z (show bO l≤kR n m by omega);refine .sl hφ h3 ?_ ?_ (by omega) (fun k hk=>by injection hk) (fun hk=>by cases hk)
        ·by_cases hne:kR n m=bO l
         ·right;omega
         ·left;rw [if_neg hne]
        ·rw [Nat.sub_mul];split
         ·rename_i he;rw [he];omega
         ·omega
   ·simp at hx
  ·simp at hx
 ·simp at hx
def nU (E:Env) (t:Nat) (x i:RV):Option dz:=
 match E.und t,x,i with
 | some (.slice e),.sl j sz o len _,.d (.int _ n)=>match E.size e with
   | some z=>bif Nat.beq sz z then some { val:=.ptr j (o+n.toNat*sz),conds:=[decide (0≤n∧n < (len:Int))] } else none
   | none=>none
 | some (.array len e),.ptr j off,.d (.int _ n)=>match E.size e with
   | some z=>some { val:=.ptr j (off+n.toNat*z),conds:=[decide (0≤n∧n < (len:Int))] }
   | none=>none
 | _,_,_=>none
theorem zh {κ:bE} {φ:bP} {w:World} {s:cu} {a:Act} (F:aA κ φ w s a) {t:Nat} {x i:RV} {v iv:Value} {res:dz}
 (hx:nU (Env.of P) t x i=some res) (hc:∀b∈res.conds,b=true) (r:bJ κ φ s.O w.heap x v) (ri:bJ κ φ s.O w.heap i iv) :
 Out P κ φ w s a res.val res.upd (Instr.indexAt t v iv):=by
 unfold nU at hx;split at hx
 ·rename_i e j sz o len cap k n hu;cases hz:(Env.of P).size e with
  | none=>rw [hz] at hx;simp at hx
  | some z=>
    rw [hz] at hx;simp only at hx;cases hb:Nat.beq sz z with
    | false=>rw [hb] at hx;simp at hx
    | true=>
      have:=cB hb;subst this
      rw [hb] at hx;simp only [cond_true,Option.some.injEq] at hx;subst hx;have hn:0≤n∧n < (len:Int):=by simpa using hc
      cases ri with
      | d Rc=>
      cases Rc;cases r with
      | sl hφ hb ho hs hle hcc hnn=>
        rename_i b o' eY c ty fz;rcases ho with rfl | ho
        ·refine Out.pure F (v:=.pointer (some ⟨b,o'+n.toNat*sz,none⟩)) ?_ (.ptr hφ);simp only [Instr.indexAt,asIntOf,Sem.run_bind,Sem.run_pure,Result.andThen_ok,aL hu];rw [if_pos hn];simp [aY hz,gW]
        ·omega
 ·rename_i len e j off k n hu;cases hz:(Env.of P).size e with
  | none=>rw [hz] at hx;simp at hx
  | some z=>
    rw [hz] at hx;simp only [Option.some.injEq] at hx;subst hx;have hn:0≤n∧n < (len:Int):=by simpa using hc
    cases ri with
    | d Rc=>
    cases Rc;cases r with
    | ptr hφ=>
      rename_i b;refine Out.pure F (v:=.pointer (some ⟨b,off+n.toNat*z,none⟩)) ?_ (.ptr hφ);simp only [Instr.indexAt,asIntOf,Sem.run_bind,Sem.run_pure,Result.andThen_ok,aL hu,Instr.sureAddr];rw [if_pos hn];simp [aY hz,gW]
 ·simp at hx
def Fx (E:Env) (t:Nat) (x:RV):Option dz:=
 match E.und t,x with
 | some (.slice _),.sl _ _ _ len _=>some { val:=.d (.int .i64 (len:Int)) }
 | _,_=>none
theorem Ow {κ:bE} {φ:bP} {w:World} {s:cu} {a:Act} (F:aA κ φ w s a) {t ty:Nat} {x:RV} {v:Value} {res:dz}
 (hx:Fx (Env.of P) t x=some res) (r:bJ κ φ s.O w.heap x v):Out P κ φ w s a res.val res.upd (Builtin.len_ #[t] ty #[v]):=by
 unfold Fx at hx;split at hx
 ·rename_i e j sz o len cap hu;injection hx with hx;subst hx;cases r with
  | sl hφ hb ho hs hle hcc hnn=>
    refine Out.pure F (v:=goInt len) ?_ (.d (eU _));have e0:(#[t]:Array TypeId)[0]? = some t:=rfl;have e1:∀(v:Value),(#[v]:Array Value)[0]? = some v:=fun v=>rfl;simp only [Builtin.len_,e0,e1,Sem.run_bind,aL hu,Result.andThen_ok,Sem.run_pure]
 ·simp at hx
def Fy (E:Env) (t:Nat) (x:RV):Option dz:=
 match E.und t,x with
 | some (.slice _),.sl _ _ _ _ (some k)=>some { val:=.d (.int .i64 (k:Int)) }
 | some (.slice _),.d (.aC 0 [] true)=>some { val:=.d (.int .i64 0) }
 | _,_=>none
theorem Ox {κ:bE} {φ:bP} {w:World} {s:cu} {a:Act} (F:aA κ φ w s a) {t ty:Nat} {x:RV} {v:Value} {res:dz}
 (hx:Fy (Env.of P) t x=some res) (r:bJ κ φ s.O w.heap x v):Out P κ φ w s a res.val res.upd (Builtin.cap_ #[t] ty #[v]):=by
 have e0:(#[t]:Array TypeId)[0]? = some t:=rfl;have e1:∀(v:Value),(#[v]:Array Value)[0]? = some v:=fun v=>rfl;unfold Fy at hx;split at hx
 ·rename_i e j sz o len k hu;injection hx with hx;subst hx;cases r with
  | sl hφ hb ho hs hle hcc hnn=>
    have:=hcc k rfl;subst this
    refine Out.pure F (v:=goInt _) ?_ (.d (eU _));simp only [Builtin.cap_,e0,e1,Sem.run_bind,aL hu,Result.andThen_ok,Sem.run_pure]
 ·rename_i e hu;injection hx with hx;subst hx
  have hv:v = .slice none 0 0:=by
   cases r with
   | d hr=>
   cases hr with
   | iU hf=>have:=hf rfl;rw [this.1,this.2 rfl]
   | aC _ _ hf _ _ _ _=>have:=(hf rfl).2;omega
  subst hv;refine Out.pure F (v:=goInt 0) ?_ (.d (eU _));simp only [Builtin.cap_,e0,e1,Sem.run_bind,aL hu,Result.andThen_ok,Sem.run_pure];rfl
 ·simp at hx
def xS (E:Env) (op:BinOp) (t:Nat) (x y:RV):Option dz:=
 match E.und t,x,y with
 | some (.slice _),.sl _ _ _ _ _,.d (.aC 0 [] true)=>match wD op false with
   | some v=>some { val:=v }
   | none=>none
 | _,_,_=>none
theorem Oy {κ:bE} {φ:bP} {w:World} {s:cu} {a:Act} (F:aA κ φ w s a) {op:BinOp} {t:Nat} {x y:RV} {xo yo:Operand} {v u:Value} {res:dz}
 (hx:xS (Env.of P) op t x y=some res) (r:bJ κ φ s.O w.heap x v) (r2:bJ κ φ s.O w.heap y u) :
 Out P κ φ w s a res.val res.upd (do eqGuard op t xo yo v u;binOp op t v u):=by
 unfold xS at hx;split at hx
 ·rename_i e j sz o len cap hu;split at hx
  ·rename_i z he;injection hx with hx;subst hx
   have hu2:u = .slice none 0 0:=by
    cases r2 with
    | d hr=>
    cases hr with
    | iU hf=>have:=hf rfl;rw [this.1,this.2 rfl]
    | aC _ _ hf _ _ _ _=>have:=(hf rfl).2;omega
   subst hu2;cases r with
   | sl hφ hb ho hs hle hcc hnn=>
     rename_i b o' eY c ty fz
     have g:(eqGuard op t xo yo (.slice (some ⟨b,o',none⟩) len eY) (.slice none 0 0)).run P w = .ok () w:=by
      unfold eqGuard;cases op<;>rfl
     have hq:=DK (P:=P) 9999 t (some ⟨b,o',none⟩) len eY 0 0 hu w;rcases jX he with ⟨rfl,rfl⟩ | ⟨rfl,rfl⟩
     ·exact Out.pure F (v:=.bool false) (by simp only [Sem.run_bind,g,Result.andThen_ok];exact (sN w hq).1) (.d (.bool _))
     ·exact Out.pure F (v:=.bool (!false)) (by simp only [Sem.run_bind,g,Result.andThen_ok];exact (sN w hq).2) (.d (.bool _))
  ·simp at hx
 ·simp at hx
theorem RL.concat {κ:bE} {φ:bP} {O:Tab} {h:Heap} {X Y R:Array Value} {xs ys:List RV} (y:RL κ φ O h Y 0 ys) (hy:Y.size=ys.length) (x:RL κ φ O h X 0 xs) (hx:X.size=xs.length) :
 RL κ φ O h (Y++X++R) 0 (ys++xs):=by
 refine ⟨by simp [hx,hy],fun j v u hv hu=>?_⟩;rw [Nat.zero_add] at hu;by_cases hj:j < ys.length
 ·rw [List.getElem?_append_left hj] at hv;rw [Array.append_assoc,Array.getElem?_append_left (by omega)] at hu;exact y.2 j v u hv (by simpa using hu)
 ·rw [List.getElem?_append_right (by omega)] at hv;have hlt:=(List.getElem?_eq_some_iff.1 hv).1;rw [Array.append_assoc,Array.getElem?_append_right (by omega),Array.getElem?_append_left (by omega),hy] at hu;exact x.2 _ v u hv (by simpa using hu)
theorem RL.over {κ:bE} {φ:bP} {O:Tab} {h:Heap} {c X:Array Value} {cs xs:List RV} {n:Nat} (y:RL κ φ O h c 0 cs) (hn:n≤cs.length) (x:RL κ φ O h X 0 xs) (hx:X.size=xs.length) (hs:n+xs.length≤c.size) :
 RL κ φ O h (eP c n X.toList) 0 (cs.take n++xs):=by
 have hX:X.toList.length=xs.length:=by simpa using hx
 have htl:(cs.take n).length=n:=by simp;omega
 refine ⟨by rw [dV _ _ _ (by omega)];simp;omega,fun j v u hv hu=>?_⟩;rw [Nat.zero_add,iE _ _ _ (by omega)] at hu;by_cases hj:j < n
 ·rw [List.getElem?_append_left (by omega),List.getElem?_take,if_pos hj] at hv;rw [if_pos hj] at hu;exact y.2 j v u hv (by simpa using hu)
 ·rw [List.getElem?_append_right (by omega),htl] at hv;have hlt:=(List.getElem?_eq_some_iff.1 hv).1;rw [if_neg hj,if_pos (by omega)] at hu;exact x.2 _ v u hv (by simpa using hu)
section
variable {w:World} {e z iO t t2 len n:Nat} {cap:Nat} {vx:Value} {X:Array Value} {zS:TypeDesc}
 (hu:(Env.of P).und t=some (.slice e)) (hu2:(Env.of P).und t2=some zS) (hni:∀k,zS≠.int k) (hz:(Env.of P).size e=some z)
 (hl:(Builtin.lenOf vx).run P w = .ok n w) (hX:(Builtin.firstCells z n vx).run P w = .ok X w)
include hu hu2 hni hz hl hX
theorem oG {b o:Nat} {c:Array Value} {ty:TypeId} {fz:Nat×Nat} (hfit:len+n≤cap) (hb:w.heap[b]? = some (.cells c ty fz)) (hf:uE fz c.size)
 (hs:o+len*z+X.size≤c.size) (h1:∀v∈X,v.oneCell=true) :
 (Builtin.append_ #[t,t2] t #[.slice (some ⟨b,o,none⟩) len cap,vx]).run P w = .ok (.slice (some ⟨b,o,none⟩) (len+n) cap) (World.row w b (.cells (eP c (o+len*z) X.toList) ty fz)):=by
 simp only [Builtin.append_]
 rw [show (#[t,t2]:Array TypeId)[0]? = some t from rfl,show (#[t,t2]:Array TypeId)[1]? = some t2 from rfl,
  show (#[Value.slice (some ⟨b,o,none⟩) len cap,vx]:Array Value)[0]? = some (.slice (some ⟨b,o,none⟩) len cap) from rfl,show (#[Value.slice (some ⟨b,o,none⟩) len cap,vx]:Array Value)[1]? = some vx from rfl]
 have _:=hni;have _:=hX;simp only [Sem.run_bind,aL hu,Result.andThen_ok,aY hz,aL hu2,Sem.run_pure,Bool.false_eq_true,if_false,hl];rw [if_pos hfit]
 have:=dI (P:=P) b (o+len*z) ty fz X.toList 0 c w hb hf (by simpa using hs) (by simpa using h1)
 simp only [Bool.not_false,if_true,Sem.run_bind,hX,Result.andThen_ok,gW];rw [this];simp
end
theorem nV {κ:bE} {φ:bP} {w:World} {s:cu} {a:Act} (F:aA κ φ w s a) {d e z iO t t2 len m:Nat} {ys xs:List RV} {base:Option Addr} {cap:Nat} {vx:Value} {X Y:Array Value} {zS:TypeDesc}
 (hd:s.O d=none) (hu:(Env.of P).und t=some (.slice e)) (hu2:(Env.of P).und t2=some zS) (hni:∀k,zS≠.int k) (hz:(Env.of P).size e=some z) (hby:(Env.of P).bytes e=some iO)
 (Dk:mH (Env.of P) e z=true) (hb1:1≤iO) (hroom:(len+m)*iO≤2 ^ 38) (hfit:¬len+m≤cap)
 (hl:(Builtin.lenOf vx).run P w = .ok m w) (hX:∀w' : World,w'.heap=w.heap→(Builtin.firstCells z m vx).run P w' = .ok X w') (NU:X.size=m*z) (hxl:xs.length=m*z) (Fz:RL κ φ s.O w.heap X 0 xs)
 (hY:∀w' : World,w'.heap=w.heap→(Builtin.firstCells z len (.slice base len cap)).run P w' = .ok Y w') (hYs:Y.size=len*z) (hyl:ys.length=len*z) (Qw:RL κ φ s.O w.heap Y 0 ys) :
 Out P κ φ w s a (.sl d z 0 (len+m) none) [(d,.bW e (ys++xs))] (Builtin.append_ #[t,t2] t #[.slice base len cap,vx]):=by
 obtain ⟨zv,hzv,hzs⟩:=zT Dk { w with drawn:=w.drawn+1 };obtain ⟨newCap,R,g1,g2,g3⟩:=run_append_grow (len:=len) (n:=m) (cap:=cap) (base:=base) hu hu2 hni hz hl (hX w rfl) hby hb1 hroom hfit hzv (hX { w with drawn:=w.drawn+1 } rfl) (hY { w with drawn:=w.drawn+1 } rfl)
 have hsize:(Y++X++R).size=newCap*z:=by
  simp only [Array.size_append,hYs,NU,g2,hzs];rw [←Nat.add_mul,←Nat.add_mul];congr 1;omega
 obtain ⟨q1,q2,q3⟩:=F.alloc (i:=d) (p:=.bW e (ys++xs)) (o:=.cells (Y++X++R) e (0,0)) (w':={ w with drawn:=w.drawn+1,heap:=w.heap.push (.cells (Y++X++R) e (0,0)) }) rfl hd
  (fun M=>⟨_,_,(0,0),aS _ _ _,cZ _ _ _,aW _ _,Dw _ _,RL.mono M (RL.concat Qw (by omega) Fz (by omega))⟩)
 refine ⟨_,_,_,iG φ d (.at w.heap.size),g3,q1,?_,q3,q2.kp⟩;have hle:=Nat.mul_le_mul_right z g1;refine .sl (aS _ _ _) (aW _ _) (.inl rfl) (by rw [hsize];omega) g1 (fun k e=>by cases e) (fun _ n hn=>?_)
 have:av.dB (bF s.O d (some (.bW e (ys++xs))) d)=some n:=hn
 rw [bN] at this;simp [av.dB] at this;rw [Nat.add_mul] at hle;omega
theorem Bz {κ:bE} {φ:bP} {w:World} {s:cu} {a:Act} (F:aA κ φ w s a) {d i e z t t2 len m b:Nat} {cs xs:List RV} {cap:Nat} {vx:Value} {X c:Array Value} {fz:Nat×Nat} {zS:TypeDesc}
 (hd:s.O d=none) (hu:(Env.of P).und t=some (.slice e)) (hu2:(Env.of P).und t2=some zS) (hni:∀k,zS≠.int k) (hz:(Env.of P).size e=some z) (hfit:len+m≤cap)
 (hl:(Builtin.lenOf vx).run P w = .ok m w) (hX:(Builtin.firstCells z m vx).run P w = .ok X w) (NU:X.size=m*z) (hxl:xs.length=m*z) (Fz:RL κ φ s.O w.heap X 0 xs)
 (DJ:s.O i=some .gone) (hκ:κ b = .own i) (hb:w.heap[b]? = some (.cells c e fz)) (hfz:YK e fz c.size) (hcs:RL κ φ s.O w.heap c 0 cs) (hlen:len*z≤cs.length) (hcap:cap*z≤c.size) :
 Out P κ φ w s a (.sl d z 0 (len+m) none) [(d,.bW e (cs.take (len*z)++xs))] (Builtin.append_ #[t,t2] t #[.slice (some ⟨b,0,none⟩) len cap,vx]):=by
 have hun:φ d = .un:=by have:=F.objs d;rw [hd] at this;exact this
 have hle:=Nat.mul_le_mul_right z hfit;rw [Nat.add_mul] at hle
 have hone:∀v∈X,v.oneCell=true:=fun v hv=>by
  obtain ⟨j,hj⟩:=Array.mem_iff_getElem?.1 hv;have hlt:=(Array.getElem?_eq_some_iff.1 hj).1;have hlt2:j < xs.length:=by omega
  exact (Fz.2 j _ v (List.getElem?_eq_getElem hlt2) (by simpa using hj)).2
 have hrun:=oG (len:=len) (n:=m) (cap:=cap) (o:=0) hu hu2 hni hz hl hX hfit hb hfz.1 (by omega) hone;rw [Nat.zero_add] at hrun;have hsize:(eP c (len*z) X.toList).size=c.size:=dV _ _ _ (by simp;omega)
 obtain ⟨q1,q2,q3⟩:=F.wG (i:=d) (p:=.bW e (cs.take (len*z)++xs)) (κ':=qL κ b (.own d)) (φ':=iG φ d (.at b)) (w':=World.row w b (.cells (eP c (len*z) X.toList) e fz))
  (by simp [World.row]) (fun x hx=>by rw [fZ _ _ (fun e=>by subst e;rw [hκ] at hx;cases hx)];exact hx)
  (fun x j hj hg hx=>by rw [fZ _ _ (fun e=>by subst e;rw [hκ] at hx;injection hx with hx;subst hx;exact hg DJ)];exact hx)
  (fun x _ hx=>by rw [fZ _ _ (fun e=>by subst e;rw [hκ] at hx;cases hx)];exact hx)
  (fun x hx _ hg=>iF _ _ (fun e=>by subst e;exact hg i hκ DJ))
  (fun j hj=>lY _ _ hj) (fun h=>absurd hun h)
  (fun x c0 Q9 Ra hc0=>by
    by_cases e:x=b
    ·subst e;rw [hb] at hc0;injection hc0 with hc0;injection hc0 with e1 e2 e3;subst e1;subst e2;exact ⟨_,_,dL hb,hsize⟩
    ·exact ⟨c0,Ra,by rw [iF _ _ e];exact hc0,rfl⟩)
  (fun h=>absurd hun h)
  (fun x hx=>by
    simp only [World.row,Array.size_setIfInBounds];by_cases e:x=b
    ·subst e;exact jv hb
    ·rw [fZ _ _ e] at hx;exact F.bnd.lt x hx)
  (fun M=>⟨b,_,fz,aS _ _ _,cZ _ _ _,dL hb,by rw [hsize];exact hfz,RL.mono M (RL.over hcs hlen Fz (by omega) (by omega))⟩)
 refine ⟨_,_,_,iG φ d (.at b),hrun,q1,?_,q3,q2.kp⟩;refine .sl (aS _ _ _) (dL hb) (.inl rfl) (by rw [hsize];omega) hfit (fun k e=>by cases e) (fun _ n hn=>?_)
 have:av.dB (bF s.O d (some (.bW e (cs.take (len*z)++xs))) d)=some n:=hn
 rw [bN] at this;simp [av.dB] at this;omega
def roomFor (O:Tab) (i sz o len m:Nat) (cap:Option Nat) (n:Nat):Bool:=
 Nat.ble (o+(len+m)*sz) n&&match cap with
  | some k=>Nat.ble (len+m) k
  | none=>match O i with
    | some (.bW _ _)=>Nat.ble 1 sz
    | _=>false
def kW (E:Env) (O:Tab) (sl t:Nat) (s x:RV):Option dz:=
 match E.und t with
 | some (.slice e)=>match E.size e,E.bytes e with
   | some z,some iO=>match jD O z x with
     | some (m,xs)=>bif Nat.ble 1 iO&&mH E e z then
        match s with
        | .d (.aC 0 [] true)=>bif Nat.beq m 0 then some { val:=.d (.aC 0 [] true) } else match O sl with
          | none=>some { val:=.sl sl z 0 (0+m) none,upd:=[(sl,.bW e ([]++xs))],conds:=[decide ((0+m)*iO≤2 ^ 38)] }
          | some _=>none
        | .sl i sz o len cap=>bif Nat.beq m 0 then some { val:=.sl i sz o len cap } else match bY O i with
          | some cs=>bif Nat.beq sz z&&Nat.ble (o+len*sz) cs.length then
             bif roomFor O i sz o len m cap cs.length then some { val:=.sl i sz o (len+m) cap,upd:=[(i,wH O i (splice cs (o+len*sz) xs))] }
             else match cap with
              | some k=>match O sl with
                | none=>some { val:=.sl sl sz 0 (len+m) none,upd:=[(sl,.bW e ((cs.drop o).take (len*sz)++xs))],conds:=[decide ((len+m)*iO≤2 ^ 38),decide (k < len+m)] }
                | some _=>none
              | none=>match O i,O sl with
                | some (.bW ty _),none=>bif Nat.beq ty e&&Nat.beq o 0 && !(Nat.beq i sl) then
                   some { val:=.sl sl sz 0 (len+m) none,upd:=[(i,.gone),(sl,.bW e (cs.take (len*sz)++xs))],conds:=[decide ((len+m)*iO≤2 ^ 38)] }
                  else none
                | _,_=>none
            else none
          | none=>none
        | _=>none
       else none
     | none=>none
   | _,_=>none
 | _=>none
theorem FB {κ:bE} {φ:bP} {w:World} {s:cu} {a:Act} (F:aA κ φ w s a) {sl t t2:Nat} {x y:RV} {v vx:Value} {zS:TypeDesc} {res:dz}
 (hx:kW (Env.of P) s.O sl t x y=some res) (hc:∀b∈res.conds,b=true) (hu2:(Env.of P).und t2=some zS) (hni:∀k,zS≠.int k)
 (r:bJ κ φ s.O w.heap x v) (r2:bJ κ φ s.O w.heap y vx):Out P κ φ w s a res.val res.upd (Builtin.append_ #[t,t2] t #[v,vx]):=by
 unfold kW at hx;split at hx
 ·rename_i e hu;split at hx
  ·rename_i z iO hz hby
   split at hx
   ·rename_i m xs hsrc;obtain ⟨Wo,Ky,Wp⟩:=vS F hsrc r2;obtain ⟨X,hX,NU,Fz⟩:=Wp m (Nat.le_refl _);rw [List.take_of_length_le (by omega)] at Fz;cases hg:(Nat.ble 1 iO&&mH (Env.of P) e z) with
    | false=>rw [hg] at hx;simp at hx
    | true=>
      rw [hg] at hx;simp only [cond_true] at hx;simp only [Bool.and_eq_true] at hg;have g1:=Nat.le_of_ble_eq_true hg.1;have g2:=hg.2;split at hx
      ·
       have hv:v = .slice none 0 0:=by
        cases r with
        | d hr=>
        cases hr with
        | iU hf=>have:=hf rfl;rw [this.1,this.2 rfl]
        | aC _ _ hf _ _ _ _=>have:=(hf rfl).2;omega
       subst hv;cases hm:Nat.beq m 0 with
       | true=>
         have:=cB hm;subst this
         rw [hm] at hx;simp only [cond_true,Option.some.injEq] at hx;subst hx;have hX0:X = #[]:=Array.eq_empty_of_size_eq_zero (by omega);exact Out.pure F (kJ (len:=0) (n:=0) (cap:=0) (base:=none) hu hu2 hni hz (Ky w rfl) (hX w rfl) (Nat.le_refl _) (.inl rfl)) (.d (.iU (fun _=>⟨rfl,fun _=>rfl⟩)))
       | false=>
         rw [hm] at hx;simp only [cond_false] at hx;have hm0:m≠0:=fun e=>by rw [vK e] at hm;cases hm
         split at hx
         ·rename_i hO;injection hx with hx;subst hx;exact nV F (len:=0) (m:=m) (Y:=#[]) (ys:=[]) hO hu hu2 hni hz hby g2 g1 (by simpa using hc (decide ((0+m)*iO≤2 ^ 38)) (by simp)) (by omega) (Ky w rfl) hX NU Wo Fz (fun w' _=>rfl) (by simp) (by simp) RL.nil
         ·simp at hx
      ·
       rename_i i sz o len cap hxo;clear hxo;cases hm:Nat.beq m 0 with
       | true=>
         have:=cB hm;subst this
         rw [hm] at hx;simp only [cond_true,Option.some.injEq] at hx;subst hx;have hX0:X = #[]:=Array.eq_empty_of_size_eq_zero (by omega);have r':=r;cases r with
         | sl hφ hb ho hs hle hcc hnn=>exact Out.pure F (kJ hu hu2 hni hz (Ky w rfl) (hX w rfl) (by omega) (.inr ⟨rfl,hX0⟩)) r'
       | false=>
         rw [hm] at hx;simp only [cond_false] at hx;have hm0:m≠0:=fun e=>by rw [vK e] at hm;cases hm
         split at hx
         ·rename_i cs hcs;cases hg3:(Nat.beq sz z&&Nat.ble (o+len*sz) cs.length) with
          | false=>rw [hg3] at hx;simp at hx
          | true=>
            rw [hg3] at hx;simp only [cond_true] at hx;simp only [Bool.and_eq_true] at hg3
            have:=cB hg3.1;subst this
            have g3:=Nat.le_of_ble_eq_true hg3.2;obtain ⟨b,o',eY,c,ty,fz,rfl,h1,h2,h3,h4,h5,h6,h7,h8,h9,h10⟩:=oP F hcs r;have hcl:=h5.1
            have Qw:∃Y,(∀w' : World,w'.heap=w.heap→(Builtin.firstCells sz len (.slice (some ⟨b,o',none⟩) len eY)).run P w' = .ok Y w')∧Y.size=len*sz∧RL κ φ s.O w.heap Y 0 ((cs.drop o).take (len*sz)):=by
             rcases h6 with rfl | h6
             ·obtain ⟨p1,p2,p3⟩:=h5.part (o:=o') (n:=len*sz) g3;exact ⟨_,fun w' hw=>by simp only [Builtin.firstCells];exact dU (by rw [hw];exact h3) (by omega),p2,p1⟩
             ·have:len=0:=by omega
              subst this;exact ⟨#[],fun w' _=>by simp only [Builtin.firstCells,Nat.zero_mul,loadCells,loadCellsFrom];rfl,by simp,by simpa using RL.nil⟩
            obtain ⟨Y,hY,hYs,Qw⟩:=Qw;have hyl:((cs.drop o).take (len*sz)).length=len*sz:=by simp;omega
            cases hr:roomFor s.O i sz o len m cap cs.length with
            | true=>
              rw [hr] at hx;simp only [cond_true,Option.some.injEq] at hx;subst hx;simp only [roomFor,Bool.and_eq_true] at hr;have r1:=Nat.le_of_ble_eq_true hr.1
              have hfit:len+m≤eY:=by
               cases cap with
               | some k=>rw [h9 k rfl];exact Nat.le_of_ble_eq_true hr.2
               | none=>
                 have hr2:=hr.2;simp only at hr2;split at hr2
                 ·rename_i ty' cs' hO;have e1:cs'=cs:=by simp [bY,hO] at hcs;exact hcs
                  subst e1;have h11:=h10 rfl cs'.length (by rw [hO];rfl);have hsz:=Nat.le_of_ble_eq_true hr2
                  have:(len+m)*sz≤eY*sz:=by omega
                  exact Nat.le_of_mul_le_mul_right this hsz
                 ·cases hr2
              rcases h6 with rfl | h6
              ·have Rh:(len+m)*sz=len*sz+m*sz:=Nat.add_mul _ _ _
               have hone:∀v∈X,v.oneCell=true:=fun v hv=>by
                obtain ⟨j,hj⟩:=Array.mem_iff_getElem?.1 hv;have hlt:=(Array.getElem?_eq_some_iff.1 hj).1;have hlt2:j < xs.length:=by omega
                exact (Fz.2 j _ v (List.getElem?_eq_getElem hlt2) (by simpa using hj)).2
               obtain ⟨c',ty',uz,e1,e2,e3,e4,e5,e6⟩:=lZ F hcs h1 (o:=o'+len*sz) (ys:=xs) (vs:=X.toList) (by omega) (by simp;omega) (fun j x' v' hx' hv'=>Fz.2 j x' v' hx' (by simpa using hv')) (by simpa using hone);rw [h3] at e1;injection e1 with e1;injection e1 with q1 q2 q3;subst q1;subst q2;subst q3;have hrun:=oG (len:=len) (n:=m) (cap:=eY) (o:=o') hu hu2 hni hz (Ky w rfl) (hX w rfl) hfit h3 h4 (by omega) hone;refine ⟨_,_,κ,φ,hrun,e4,?_,e6,e5.kp⟩;have r':=bJ.mono e5 r;cases r' with
               | sl hφ hb ho hs hle hcc hnn=>exact .sl hφ hb ho hs hfit hcc hnn
              ·omega
            | false=>
              rw [hr] at hx;simp only [cond_false] at hx;split at hx
              ·rename_i k;split at hx
               ·rename_i hO;injection hx with hx;subst hx;have hk:k < len+m:=by simpa using hc (decide (k < len+m)) (by simp)
                have:=h9 k rfl
                exact nV F (len:=len) (m:=m) hO hu hu2 hni hz hby g2 g1 (by simpa using hc (decide ((len+m)*iO≤2 ^ 38)) (by simp)) (by omega) (Ky w rfl) hX NU Wo Fz hY hYs hyl Qw
               ·simp at hx
              ·split at hx
               ·rename_i ty' cs' hOi hO;have e1:cs'=cs:=by simp [bY,hOi] at hcs;exact hcs
                subst e1;cases hg4:(Nat.beq ty' e&&Nat.beq o 0 && !(Nat.beq i sl)) with
                | false=>rw [hg4] at hx;simp at hx
                | true=>
                  rw [hg4] at hx;simp only [cond_true,Option.some.injEq] at hx;subst hx;simp only [Bool.and_eq_true,Bool.not_eq_true'] at hg4;obtain ⟨⟨k1,k2⟩,k3⟩:=hg4
                  have:=cB k1;subst this
                  have:=cB k2;subst this
                  have hid:i≠sl:=fun e=>by rw [vK e] at k3;cases k3
                  have hroom:(len+m)*iO≤2 ^ 38:=by simpa using hc (decide ((len+m)*iO≤2 ^ 38)) (by simp)
                  obtain ⟨F1,M1,R1⟩:=F.gone i (by rw [h1];simp);have hd1:bF s.O i (some .gone) sl=none:=by rw [dP _ _ (fun e=>hid e.symm)];exact hO
                  have hty:ty=ty'∧YK ty' fz c.size:=by
                   have ho:=F.objs i;rw [hOi] at ho;obtain ⟨b2,c2,Qz,k1,k2,k3,k4,_⟩:=ho;rw [h1] at k1;injection k1 with k1;subst k1;rw [h3] at k3;injection k3 with k3;injection k3 with e1 e2 e3;subst e1;subst e3;exact ⟨e2,k4⟩
                  obtain ⟨hty,hfr⟩:=hty;subst hty
                  have fin:Out P κ φ w { s with O:=bF s.O i (some .gone) } a (.sl sl sz 0 (len+m) none) [(sl,.bW ty (cs'.take (len*sz)++xs))] (Builtin.append_ #[t,t2] t #[.slice (some ⟨b,o',none⟩) len eY,vx]):=by
                   by_cases hfit:len+m≤eY
                   ·have ho0:o'=0:=by rcases h6 with h6 | h6;exact h6;omega
                    subst ho0;exact Bz F1 hd1 hu hu2 hni hz hfit (Ky w rfl) (hX w rfl) NU Wo (RL.mono M1 Fz) (bN _ _ _) h2 h3 hfr (RL.mono M1 h5) (by omega) (by omega)
                   ·have:=nV F1 (len:=len) (m:=m) hd1 hu hu2 hni hz hby g2 g1 hroom hfit (Ky w rfl) hX NU Wo (RL.mono M1 Fz) hY hYs hyl (RL.mono M1 Qw)
                    simpa using this
                  obtain ⟨v',w',κ',φ',o1,o2,o3,o4⟩:=fin;exact ⟨v',w',κ',φ',o1,o2,o3,R1.trans o4.1,M1.kp.trans o4.2⟩
               ·simp at hx
         ·simp at hx
      ·simp at hx
   ·simp at hx
  ·simp at hx
 ·simp at hx
def sQ:Nat→List RV→List RV
 | 0,_=>[]
 | n+1,l=>l++sQ n l
theorem oU (l:List RV):∀n,(sQ n l).length=n*l.length
 | 0=>by simp [sQ]
 | n+1=>by simp only [sQ,List.length_append,oU l n,Nat.add_mul];omega
theorem DW (l:List RV):∀(n j:Nat) (x:RV),(sQ n l)[j]? = some x→j < n*l.length∧l[j % l.length]? = some x
 | 0,j,x,h=>by simp [sQ] at h
 | n+1,j,x,h=>by
   simp only [sQ] at h;by_cases hj:j < l.length
   ·rw [List.getElem?_append_left hj] at h;refine ⟨by rw [Nat.add_mul];omega,by rw [Nat.mod_eq_of_lt hj];exact h⟩
   ·rw [List.getElem?_append_right (by omega)] at h;obtain ⟨h1,h2⟩:=DW l n _ x h;refine ⟨by rw [Nat.add_mul];omega,?_⟩;rw [Nat.mod_eq_sub_mod (by omega)];exact h2
def Y6 (x:RV):Bool:=match x with
 | .d y=>y.iD
 | _=>false
def qg (E:Env) (O:Tab) (t:Nat) (x y:RV):Option dz:=
 match E.und t with
 | some (.slice e)=>match E.size e with
   | some z=>match jD O z y with
     | some (m,ys)=>match x with
       | .d (.aC 0 [] true)=>some { val:=.d (.int .i64 0) }
       | .sl i sz o len _=>bif Nat.beq (Nat.min m len) 0 then some { val:=.d (.int .i64 0) } else match bY O i with
         | some cs=>bif Nat.beq sz z&&Nat.ble (o+Nat.min m len*sz) cs.length then
            some { val:=.d (.int .i64 ((Nat.min m len:Nat):Int)),upd:=[(i,wH O i (splice cs o (ys.take (Nat.min m len*z))))] } else none
         | none=>none
       | _=>none
     | none=>none
   | none=>none
 | _=>none
theorem Kz {κ:bE} {φ:bP} {w:World} {s:cu} {a:Act} (F:aA κ φ w s a) {t t2 ty:Nat} {x y:RV} {v vx:Value} {res:dz}
 (hx:qg (Env.of P) s.O t x y=some res) (r:bJ κ φ s.O w.heap x v) (r2:bJ κ φ s.O w.heap y vx):Out P κ φ w s a res.val res.upd (Builtin.copy_ #[t,t2] ty #[v,vx]):=by
 unfold qg at hx;split at hx
 ·rename_i e hu;split at hx
  ·rename_i z hz;split at hx
   ·rename_i m ys hsrc;obtain ⟨Wo,Ky,Wp⟩:=vS (P:=P) F hsrc r2;have q0:(#[t,t2]:Array TypeId)[0]? = some t:=rfl;have q1:∀u v:Value,(#[u,v]:Array Value)[0]? = some u:=fun _ _=>rfl;have q2:∀u v:Value,(#[u,v]:Array Value)[1]? = some v:=fun _ _=>rfl;split at hx
    ·injection hx with hx;subst hx
     have hv:v = .slice none 0 0:=by
      cases r with
      | d hr=>
      cases hr with
      | iU hf=>have:=hf rfl;rw [this.1,this.2 rfl]
      | aC _ _ hf _ _ _ _=>have:=(hf rfl).2;omega
     subst hv;obtain ⟨X,hX,_,_⟩:=Wp 0 (Nat.zero_le _);refine Out.pure F (v:=goInt 0) ?_ (.d (eU _))
     have:Nat.min m 0=0:=Nat.min_zero m
     simp only [Builtin.copy_,q0,q1,q2,Sem.run_bind,aL hu,Result.andThen_ok,Ky w rfl,this,aY hz,hX w rfl,Sem.run_pure];rfl
    ·rename_i i sz o len cap
     have hfin:∀b o' eY,Nat.min m len=0→(Builtin.copy_ #[t,t2] ty #[.slice (some ⟨b,o',none⟩) len eY,vx]).run P w = .ok (goInt 0) w:=by
      intro b o' eY h0;obtain ⟨X,hX,NU,_⟩:=Wp 0 (Nat.zero_le _)
      have:X = #[]:=Array.eq_empty_of_size_eq_zero (by omega)
      subst this;simp only [Builtin.copy_,q0,q1,q2,Sem.run_bind,aL hu,Result.andThen_ok,Ky w rfl,h0,aY hz,hX w rfl,Sem.run_pure,storeCells];rfl
     cases h0:Nat.beq (Nat.min m len) 0 with
     | true=>
       rw [h0] at hx;simp only [cond_true,Option.some.injEq] at hx;subst hx;cases r with
       | sl hφ hb ho hs hle hcc hnn=>exact Out.pure F (hfin _ _ _ (cB h0)) (.d (eU _))
     | false=>
       rw [h0] at hx;simp only [cond_false] at hx;have hne:Nat.min m len≠0:=fun e=>by rw [vK e] at h0;cases h0
       have hml:Nat.min m len≤m:=Nat.min_le_left _ _;have hll:Nat.min m len≤len:=Nat.min_le_right _ _;generalize hk:Nat.min m len=k at *;split at hx
       ·rename_i cs hcs;cases hg:(Nat.beq sz z&&Nat.ble (o+k*sz) cs.length) with
        | false=>rw [hg] at hx;simp at hx
        | true=>
          rw [hg] at hx;simp only [cond_true,Option.some.injEq] at hx;subst hx;simp only [Bool.and_eq_true] at hg
          have:=cB hg.1;subst this
          have g3:=Nat.le_of_ble_eq_true hg.2;obtain ⟨X,hX,NU,Fz⟩:=Wp k hml;obtain ⟨b,o',eY,c,cty,fz,rfl,h1,h2,h3,h4,h5,h6,h7,h8,h9,h10⟩:=oP F hcs r;have ho:o'=o:=by rcases h6 with h6 | h6;exact h6;omega
          subst ho;have hkm:=Nat.mul_le_mul_right sz hml;have hyl:(ys.take (k*sz)).length=k*sz:=by simp;omega
          have hone:∀v∈X.toList,v.oneCell=true:=fun v hv=>by
           obtain ⟨j,hj⟩:=List.mem_iff_getElem?.1 hv;have hlt:=(List.getElem?_eq_some_iff.1 hj).1;have hlt2:j < (ys.take (k*sz)).length:=by simp at hlt;omega
           exact (Fz.2 j _ v (List.getElem?_eq_getElem hlt2) (by simpa using hj)).2
          obtain ⟨c',ty',uz,e1,e2,e3,e4,e5,e6⟩:=lZ F hcs h1 (o:=o') (ys:=ys.take (k*sz)) (vs:=X.toList) (by omega) (by simp;omega) (fun j x' v' hx' hv'=>Fz.2 j x' v' hx' (by simpa using hv')) hone;have hst:=dI (P:=P) b o' ty' uz X.toList 0 c' w e1 e2 (by simpa using e3) hone;refine ⟨_,_,κ,φ,?_,e4,.d (eU _),e6,e5.kp⟩;simp only [Builtin.copy_,q0,q1,q2,Sem.run_bind,aL hu,Result.andThen_ok,Ky w rfl,hk,aY hz,hX w rfl,Sem.run_pure];rw [hst];simp
       ·simp at hx
    ·simp at hx
   ·simp at hx
  ·simp at hx
 ·simp at hx
def nD (E:Env) (O:Tab) (t:Nat) (x:RV):Option dz:=
 match E.und t with
 | some (.slice e)=>match x with
   | .d (.aC 0 [] true)=>some { val:=.d (.bn []) }
   | .sl i sz o len _=>bif Nat.beq len 0 then some { val:=.d (.bn []) } else match bY O i,E.zero e with
     | some cs,some z=>bif Nat.beq z.cells.length sz&&dO (.d z)&&Nat.ble (o+len*sz) cs.length then
        some { val:=.d (.bn []),upd:=[(i,wH O i (splice cs o (sQ len (z.cells.map .d))))] } else none
     | _,_=>none
   | _=>none
 | _=>none
theorem xU {κ:bE} {φ:bP} {O:Tab} {h:Heap} {z:DV} {zv:Value} (r:DR κ h z zv) (hk:dO (.d z)=true) {B:Array Value} {n:Nat}
 (hB:∀k,k < n*zv.cells.size→B[k]? = zv.cells[k % zv.cells.size]?) (hs:n*zv.cells.size≤B.size):RL κ φ O h B 0 (sQ n (z.cells.map .d)):=by
 obtain ⟨c1,c2,c3⟩:=jC (φ:=φ) (O:=O) (.d r) hk;simp only [RV.cells] at c1 c3;refine ⟨by rw [oU,←c1];omega,fun j x v hx hv=>?_⟩;obtain ⟨g1,g2⟩:=DW _ n j x hx;rw [Nat.zero_add,hB j (by rw [c1];exact g1)] at hv;rw [c1] at hv;exact ⟨c3 _ x v g2 hv,c2 v (Array.mem_iff_getElem?.2 ⟨_,hv⟩)⟩
theorem BA (c:Array Value) (n k:Nat) (h:k < n*c.size):(Builtin.zeroCells c n)[k]? = c[k % c.size]?:=by
 have hpos:0 < c.size:=by
  rcases Nat.eq_zero_or_pos c.size with e | e
  ·rw [e] at h;omega
  ·exact e
 have hlt:k % c.size < c.size:=Nat.mod_lt _ hpos;simp only [Builtin.zeroCells];have e1:((Array.range (n*c.size)).map (fun i=>c[i % c.size]!))[k]? = some (c[k % c.size]!):=by simp [h]
 rw [e1,getElem!_pos c (k % c.size) hlt,getElem?_pos c (k % c.size) hlt]
theorem Jc {κ:bE} {φ:bP} {w:World} {s:cu} {a:Act} (F:aA κ φ w s a) {t ty:Nat} {x:RV} {v:Value} {res:dz}
 (hx:nD (Env.of P) s.O t x=some res) (r:bJ κ φ s.O w.heap x v):Out P κ φ w s a res.val res.upd (Builtin.clear_ #[t] ty #[v]):=by
 have q0:(#[t]:Array TypeId)[0]? = some t:=rfl;have q1:∀u:Value,(#[u]:Array Value)[0]? = some u:=fun _=>rfl;have Wq:bJ κ φ s.O w.heap (.d (.bn [])) (.tuple #[]):=.d (.bn rfl (by simp));unfold nD at hx;split at hx
 ·rename_i e hu;split at hx
  ·injection hx with hx;subst hx
   have hv:v = .slice none 0 0:=by
    cases r with
    | d hr=>
    cases hr with
    | iU hf=>have:=hf rfl;rw [this.1,this.2 rfl]
    | aC _ _ hf _ _ _ _=>have:=(hf rfl).2;omega
   subst hv;exact Out.pure F (by simp only [Builtin.clear_,q0,q1,Sem.run_bind,aL hu,Result.andThen_ok,Sem.run_pure]) Wq
  ·rename_i i sz o len cap;cases h0:Nat.beq len 0 with
   | true=>
     have:=cB h0;subst this
     rw [h0] at hx;simp only [cond_true,Option.some.injEq] at hx;subst hx;cases r with
     | sl hφ hb ho hs hle hcc hnn=>exact Out.pure F (by simp only [Builtin.clear_,q0,q1,Sem.run_bind,aL hu,Result.andThen_ok,Sem.run_pure]) Wq
   | false=>
     have hne:len≠0:=fun e=>by rw [vK e] at h0;cases h0
     rw [h0] at hx;simp only [cond_false] at hx;split at hx
     ·rename_i cs z hcs Dk;cases hg:(Nat.beq z.cells.length sz&&dO (.d z)&&Nat.ble (o+len*sz) cs.length) with
      | false=>rw [hg] at hx;simp at hx
      | true=>
        rw [hg] at hx;simp only [cond_true,Option.some.injEq] at hx;subst hx;simp only [Bool.and_eq_true] at hg;obtain ⟨⟨g1,g2⟩,g3⟩:=hg;have g1:=cB g1;have g3:=Nat.le_of_ble_eq_true g3;obtain ⟨zv,hzv,Wh⟩:=fC Dk w;have hzd:DR κ w.heap z zv:=iI Wh;have hzs:zv.cells.size=sz:=by have:=hzd.cells.1;omega
        obtain ⟨b,o',eY,c,cty,fz,rfl,h1,h2,h3,h4,h5,h6,h7,h8,h9,h10⟩:=oP F hcs r;have ho:o'=o:=by rcases h6 with h6 | h6;exact h6;omega
        subst ho;have hZs:(Builtin.zeroCells zv.cells len).size=len*sz:=by simp [Builtin.zeroCells,hzs]
        have hZ:=xU (κ:=κ) (φ:=φ) (O:=s.O) (B:=Builtin.zeroCells zv.cells len) (n:=len) hzd g2 (fun k hk=>BA _ _ _ hk) (by rw [hZs,hzs];exact Nat.le_refl _);have hrl:(sQ len (z.cells.map .d)).length=len*sz:=by rw [oU];simp [g1]
        have hone:∀v∈(Builtin.zeroCells zv.cells len).toList,v.oneCell=true:=fun v hv=>by
         obtain ⟨j,hj⟩:=List.mem_iff_getElem?.1 hv;have hlt:=(List.getElem?_eq_some_iff.1 hj).1;have hlt2:j < (sQ len (z.cells.map .d)).length:=by simp only [Array.length_toList] at hlt;omega
         exact (hZ.2 j _ v (List.getElem?_eq_getElem hlt2) (by simpa using hj)).2
        obtain ⟨c',ty',uz,e1,e2,e3,e4,e5,e6⟩:=lZ F hcs h1 (o:=o') (ys:=sQ len (z.cells.map .d)) (vs:=(Builtin.zeroCells zv.cells len).toList) (by omega) (by simp only [Array.length_toList];omega)
         (fun j x' v' hx' hv'=>hZ.2 j x' v' hx' (by simpa using hv')) hone
        have hst:=dI (P:=P) b o' ty' uz (Builtin.zeroCells zv.cells len).toList 0 c' w e1 e2 (by simpa using e3) hone;refine ⟨.tuple #[],_,κ,φ,?_,e4,.d (.bn (vs:=#[]) rfl (by simp)),e6,e5.kp⟩
        have hz' : ∀k,len=k+1→(Builtin.clear_ #[t] ty #[.slice (some ⟨b,o',none⟩) (k+1) eY]).run P w=((storeCells ⟨b,o',none⟩ (Builtin.zeroCells zv.cells (k+1)).toList 0).run P w).andThen fun _ w=>.ok (.tuple #[]) w:=by
         intro k _;simp only [Builtin.clear_,q0,q1,Sem.run_bind,aL hu,Result.andThen_ok,hzv,Sem.run_pure]
        obtain ⟨k,rfl⟩:∃k,len=k+1:=⟨len-1,by omega⟩;rw [hz' k rfl,hst];simp
     ·simp at hx
  ·simp at hx
 ·simp at hx
def kS (E:Env) (O:Tab) (sl t:Nat) (len cap:RV):Option dz:=
 match E.und t,len,cap with
 | some (.slice e),.d (.int _ n),.d (.int _ m)=>match O sl,E.size e,E.bytes e,E.zero e with
   | none,some z,some iO,some x=>bif Nat.ble 1 iO&&Nat.beq x.cells.length z&&dO (.d x) then
      some { val:=.sl sl z 0 n.toNat (some m.toNat),upd:=[(sl,.bW e (sQ m.toNat (x.cells.map .d)))],conds:=[decide (0≤n∧n≤m),decide ((iO:Int)*m≤2 ^ 38)] } else none
   | _,_,_,_=>none
 | _,_,_=>none
theorem zi {κ:bE} {φ:bP} {w:World} {s:cu} {a:Act} (F:aA κ φ w s a) {sl t:Nat} {x y:RV} {v u:Value} {res:dz}
 (hx:kS (Env.of P) s.O sl t x y=some res) (hc:∀b∈res.conds,b=true) (r:bJ κ φ s.O w.heap x v) (r2:bJ κ φ s.O w.heap y u) :
 Out P κ φ w s a res.val res.upd (Instr.makeSlice t v u):=by
 unfold kS at hx;split at hx
 ·rename_i e k n k' m hu;split at hx
  ·rename_i z iO q hO hz hby Dk;cases hg:(Nat.ble 1 iO&&Nat.beq q.cells.length z&&dO (.d q)) with
   | false=>rw [hg] at hx;simp at hx
   | true=>
     rw [hg] at hx;simp only [cond_true,Option.some.injEq] at hx;subst hx;simp only [Bool.and_eq_true] at hg;obtain ⟨⟨g2,g3⟩,g4⟩:=hg;have g2:=Nat.le_of_ble_eq_true g2;have g3:=cB g3;have c1:0≤n∧n≤m:=by simpa using hc (decide (0≤n∧n≤m)) (by simp)
     have c2:(iO:Int)*m≤2 ^ 38:=of_decide_eq_true (hc (decide ((iO:Int)*m≤2 ^ 38)) (by simp));have p38:(2:Int) ^ 38=274877906944:=by decide
     have p62:(2:Int) ^ 62=4611686018427387904:=by decide
     have p48:(2:Int) ^ 48=281474976710656:=by decide
     have hm:m≤(iO:Int)*m:=by
      have:=Int.mul_le_mul_of_nonneg_right (show (1:Int)≤(iO:Int) by omega) (show 0≤m by omega)
      simpa using this
     cases r with
     | d hr=>
     cases r2 with
     | d hr2=>
     cases hr;cases hr2;obtain ⟨ti,hti,DI⟩:=gY hby w;obtain ⟨zv,hzv,Wh⟩:=fC Dk w;have hzd:DR κ w.heap q zv:=iI Wh;obtain ⟨zc1,zc2⟩:=hzd.cells;have hzs:zv.cells.size=z:=by omega
     have hB:((Array.range (m.toNat*z)).map (zv.cells[· % zv.cells.size]!)).size=m.toNat*z:=by simp
     have hrun:∃B:Array Value,B.size=m.toNat*z∧(∀k,k < m.toNat*z→B[k]? = zv.cells[k % z]?)∧(Instr.makeSlice t (.int k n) (.int k' m)).run P w = .ok (.slice (some ⟨w.heap.size,0,none⟩) n.toNat m.toNat) { w with heap:=w.heap.push (.cells B e (0,0)) }:=by
      have w1:IntKind.i64.wrap n=n:=wrap_small (by omega) (by omega);have w2:IntKind.i64.wrap m=m:=wrap_small (by omega) (by omega);have hlt:¬((iO:Int)*m > 2 ^ 48):=by omega
      have hcond:((decide (m < 0)||decide ((iO:Int)*m > 2 ^ 48))||decide (n < 0)||decide (n > m))=false:=by simp;omega
      by_cases h0:m.toNat*z=0
      ·refine ⟨(Array.range (m.toNat*z)).map ((#[]:Array Value)[· % (#[]:Array Value).size]!),by simp,fun k hk=>by omega,?_⟩;simp only [Instr.makeSlice,Sem.run_bind,aL hu,Result.andThen_ok,asInt,asIntOf,Sem.run_pure,hti,DI,w1,w2];rw [if_neg (by simpa using hcond)];simp only [Sem.run_bind,Result.andThen_ok,run_askRoom,aY hz];rw [if_pos h0];simp [newRow]
      ·refine ⟨(Array.range (m.toNat*z)).map (zv.cells[· % zv.cells.size]!),hB,fun k hk=>?_,?_⟩
       ·have hz0:0 < z:=by
         rcases Nat.eq_zero_or_pos z with e | e
         ·rw [e] at h0;omega
         ·exact e
        have hlt:k % z < zv.cells.size:=by rw [hzs];exact Nat.mod_lt _ hz0
        have e1:((Array.range (m.toNat*z)).map (zv.cells[· % zv.cells.size]!))[k]? = some (zv.cells[k % z]!):=by simp [hk,hzs]
        rw [e1,getElem!_pos zv.cells (k % z) hlt,getElem?_pos zv.cells (k % z) hlt]
       ·simp only [Instr.makeSlice,Sem.run_bind,aL hu,Result.andThen_ok,asInt,asIntOf,Sem.run_pure,hti,DI,w1,w2];rw [if_neg (by simpa using hcond)];simp only [Sem.run_bind,Result.andThen_ok,run_askRoom,aY hz];rw [if_neg h0];simp [newRow,hzv]
     obtain ⟨B,hB1,hB2,hrun⟩:=hrun;have hnm:n.toNat≤m.toNat:=by omega
     have hle:=Nat.mul_le_mul_right z hnm
     obtain ⟨q1,q2,q3⟩:=F.alloc (i:=sl) (p:=.bW e (sQ m.toNat (q.cells.map .d))) (o:=.cells B e (0,0)) (w':={ w with heap:=w.heap.push (.cells B e (0,0)) }) rfl hO
      (fun M=>⟨_,_,_,aS _ _ _,cZ _ _ _,aW _ _,Dw _ _,RL.mono M (xU hzd g4 (fun k hk=>by rw [hzs] at hk ⊢;exact hB2 k hk) (by rw [hzs,hB1];exact Nat.le_refl _))⟩)
     refine ⟨_,_,_,iG φ sl (.at w.heap.size),hrun,q1,?_,q3,q2.kp⟩;exact .sl (aS _ _ _) (aW _ _) (.inl rfl) (by rw [hB1];omega) hnm (fun k e=>by injection e) (fun e=>by cases e)
  ·simp at hx
 ·simp at hx
def qh (E:Env) (O:Tab) (sl src dst:Nat) (x:RV):Option dz:=
 match E.und src,E.und dst,x with
 | some _,some (.slice e),.d (.str s)=>bif qJ (E.und e)&&Gl.mark e then
    match O sl,E.size e with
    | none,some 1=>some { val:=.sl sl 1 0 s.length none,upd:=[(sl,.bW e (I9 s))] }
    | _,_=>none
   else none
 | some (.slice e),some .string,.sl i sz o len _=>bif qJ (E.und e)&&Nat.beq sz 1 then
    match bY O i with
    | some cs=>bif Nat.ble (o+len) cs.length then match Dm ((cs.drop o).take len) with
      | some els=>bif els.all DV.isByte then some { val:=.d (.str (els.map DV.byte)) } else none
      | none=>none
      else bif Nat.beq len 0 then some { val:=.d (.str []) } else none
    | none=>none
   else none
 | some (.slice e),some .string,.d (.aC 0 [] true)=>bif qJ (E.und e) then some { val:=.d (.str []) } else none
 | _,_,_=>none
theorem BD {d:Option TypeDesc} (h:qJ d=true):d=some (.int .u8):=by
 unfold qJ at h;split at h
 ·rfl
 ·simp at h
theorem KC {κ:bE} {φ:bP} {w:World} {s:cu} {a:Act} (F:aA κ φ w s a) {sl src dst:Nat} {x:RV} {v:Value} {res:dz}
 (hx:qh (Env.of P) s.O sl src dst x=some res) (r:bJ κ φ s.O w.heap x v):Out P κ φ w s a res.val res.upd (convert src dst v):=by
 unfold qh at hx;split at hx
 ·rename_i ds e str hs hd;cases Oz:(qJ ((Env.of P).und e)&&Gl.mark e) with
  | false=>rw [Oz] at hx;simp at hx
  | true=>
    rw [Oz] at hx;simp only [cond_true] at hx;simp only [Bool.and_eq_true] at Oz;obtain ⟨I5,hmk⟩:=Oz;have hue:=BD I5;split at hx
    ·rename_i hO hz;injection hx with hx;subst hx;cases r with
     | d hr=>
     cases hr;have hsz:(⟨str.toArray⟩:ByteArray).size=str.length:=by simp [ByteArray.size]
     generalize hcap:str.length+w.tape w.drawn (.appendCap str.length 0 e) % (2 ^ 63-str.length)=cap;have hcl:str.length≤cap:=by omega
     have hC:(str.toArray.map (fun b=>Value.int .u8 b.toNat)++Array.replicate (cap-str.length) (Value.int .u8 0)).size=cap:=by simp;omega
     generalize Wd:str.toArray.map (fun b=>Value.int .u8 b.toNat)++Array.replicate (cap-str.length) (Value.int .u8 0)=C at hC
     have hrun:(convert src dst (.string ⟨str.toArray⟩)).run P w = .ok (.slice (some ⟨w.heap.size,0,none⟩) str.length cap) { w with drawn:=w.drawn+1,heap:=w.heap.push (.cells C e (cap,cap+1)) }:=by
      simp only [convert,Sem.run_bind,aL hs,aL hd,aL hue,Result.andThen_ok,Conv.stringToBytes,hsz,run_choose,Question.forced,Question.cut,Bool.false_eq_true,if_false,hcap,Wd,
       newRow,run_newObj,Sem.run_pure,markStringish,run_shape,World.shape?,aW,hC,run_freeze,World.freeze]
      rw [if_neg (by omega)];congr 2;apply Array.ext_getElem?;intro j;rw [Array.getElem?_modify];by_cases e:w.heap.size=j
      ·subst e;simp
      ·rw [if_neg e];rcases Nat.lt_or_ge j w.heap.size with h | h
       ·rw [dM h,dM h]
       ·rw [Array.getElem?_eq_none (by simp;omega),Array.getElem?_eq_none (by simp;omega)]
     have Y7:(I9 str).length=str.length:=by simp [I9]
     obtain ⟨q1,q2,q3⟩:=F.alloc (i:=sl) (p:=.bW e (I9 str)) (o:=.cells C e (cap,cap+1)) (w':={ w with drawn:=w.drawn+1,heap:=w.heap.push (.cells C e (cap,cap+1)) }) rfl hO
      (fun M=>⟨_,_,_,aS _ _ _,cZ _ _ _,aW _ _,⟨fun o ho h=>by rw [hC] at ho;omega,fun e=>by rw [hmk] at e;cases e⟩,by rw [hC,Y7];omega,fun j x v hx hv=>by
        obtain ⟨b,hb,rfl⟩:=Ht str j x hx;have hlt:=(List.getElem?_eq_some_iff.1 hb).1;rw [←Wd,Nat.zero_add,Array.getElem?_append_left (by simp;omega)] at hv;simp [hb] at hv;subst hv;exact ⟨.d (.int _ _),rfl⟩⟩)
     refine ⟨_,_,_,iG φ sl (.at w.heap.size),hrun,q1,?_,q3,q2.kp⟩
     exact .sl (aS _ _ _) (aW _ _) (.inl rfl) (by rw [hC];omega) hcl (fun k e=>by cases e) (fun _ n hn=>by
      have:av.dB (bF s.O sl (some (.bW e (I9 str))) sl)=some n:=hn
      rw [bN] at this;simp [av.dB,I9] at this;omega)
    ·simp at hx
 ·rename_i e i sz o len cap hs hd;cases hg:(qJ ((Env.of P).und e)&&Nat.beq sz 1) with
  | false=>rw [hg] at hx;simp at hx
  | true=>
    rw [hg] at hx;simp only [cond_true] at hx;simp only [Bool.and_eq_true] at hg;have hue:=BD hg.1
    have:=cB hg.2;subst this
    split at hx
    ·rename_i cs hcs;obtain ⟨b,o',eY,c,cty,fz,rfl,h1,h2,h3,h4,h5,h6,h7,h8,h9,h10⟩:=oP F hcs r
     have Ho:(convert src dst (.slice (some ⟨b,o',none⟩) len eY)).run P w=(Conv.bytesToString (.slice (some ⟨b,o',none⟩) len eY)).run P w:=by
      simp only [convert,Sem.run_bind,aL hs,aL hd,aL hue,Result.andThen_ok]
     have hzero:len=0→Out P κ φ w s a (.d (.str [])) [] (convert src dst (.slice (some ⟨b,o',none⟩) len eY)):=by
      intro h0;subst h0;refine Out.pure F (v:=.string ⟨([]:List UInt8).toArray⟩) ?_ (.d (.str _));rw [Ho];simp [Conv.bytesToString,loadCells,loadCellsFrom];rfl
     cases hb:Nat.ble (o+len) cs.length with
     | false=>
       rw [hb] at hx;simp only [cond_false] at hx;cases h0:Nat.beq len 0 with
       | false=>rw [h0] at hx;simp at hx
       | true=>rw [h0] at hx;simp only [cond_true,Option.some.injEq] at hx;subst hx;exact hzero (cB h0)
     | true=>
       rw [hb] at hx;simp only [cond_true] at hx;have hb:=Nat.le_of_ble_eq_true hb;split at hx
       ·rename_i els hall;cases hby:els.all DV.isByte with
        | false=>rw [hby] at hx;simp at hx
        | true=>
          rw [hby] at hx;simp only [cond_true,Option.some.injEq] at hx;subst hx;have hel:=zN _ _ hall;have hcl:=h5.1;have hlen:((cs.drop o).take len).length=len:=by simp;omega
          have hell:els.length=len:=by rw [hel] at hlen;simpa using hlen
          by_cases h0:len=0
          ·have:els=[]:=List.eq_nil_of_length_eq_zero (by omega)
           subst this;exact hzero h0
          ·have ho:o'=o:=by rcases h6 with h6 | h6;exact h6;omega
           subst ho;refine Out.pure F (v:=.string ⟨(els.map DV.byte).toArray⟩) ?_ (.d (.str _));rw [Ho];obtain ⟨p1,p2,p3⟩:=h5.part (o:=o') (n:=len) hb;simp only [Conv.bytesToString,Sem.run_bind,dU h3 (show o'+len≤c.size by omega),Result.andThen_ok];rw [←Array.forIn_toList];have hll:(c.extract o' (o'+len)).toList.length=els.length:=by rw [Array.length_toList,p2,hell]
           rw [rP (P:=P) _ (fun _ _=>rfl) (c.extract o' (o'+len)).toList els ByteArray.empty w hll (fun i x v hx hv=>by
            obtain ⟨n,rfl⟩:=byte_of (List.all_eq_true.1 hby x (List.mem_iff_getElem?.2 ⟨i,hx⟩));have hrx:((cs.drop o').take len)[i]? = some (.d (.int .u8 n)):=by rw [hel];simp [hx]
            have:=(p1.2 i _ v hrx (by rw [Array.getElem?_toList] at hv;rw [Nat.zero_add];exact hv)).1
            cases this with
            | d hr=>cases hr;exact ⟨n,rfl,rfl⟩)]
           simp only [Result.andThen_ok,Sem.run_pure];congr 3;simp
       ·simp at hx
    ·simp at hx
 ·rename_i e hs hd;cases hg:qJ ((Env.of P).und e) with
  | false=>rw [hg] at hx;simp at hx
  | true=>
    rw [hg] at hx;simp only [cond_true,Option.some.injEq] at hx;subst hx;have hue:=BD hg
    have hv:v = .slice none 0 0:=by
     cases r with
     | d hr=>
     cases hr with
     | iU hf=>have:=hf rfl;rw [this.1,this.2 rfl]
     | aC _ _ hf _ _ _ _=>have:=(hf rfl).2;omega
    subst hv;refine Out.pure F (v:=.string ⟨([]:List UInt8).toArray⟩) ?_ (.d (.str _));simp only [convert,Sem.run_bind,aL hs,aL hd,aL hue,Result.andThen_ok,Conv.bytesToString,Sem.run_pure];rfl
 ·simp at hx
theorem BF {κ:bE} {φ:bP} {w:World} {s:cu} {a:Act} (F:aA κ φ w s a) {fn:Fn} {fs cs:List RV} {f c:Array Value} (hl1:f.size=fs.length) (hl2:c.size=cs.length)
 (h1:∀(i:Nat) (x:RV) (v:Value),fs[i]? = some x→f[i]? = some v→bJ κ φ s.O w.heap x v) (h2:∀(i:Nat) (x:RV) (v:Value),cs[i]? = some x→c[i]? = some v→bJ κ φ s.O w.heap x v) :
 Out P κ φ w s a (.gI fn fs cs) [] (Instr.makeFunc fn f c):=
 ⟨.func fn f c,w,κ,φ,rfl,F,.gI hl1 hl2 h1 h2,Fr.refl _ _,Kp.refl _ _⟩
end Go.Am
namespace Go.Am
set_option linter.unusedSectionVars false
variable [Gl]
def vT {α:Type} (f:α→α→Bool):List α→List α→Bool
 | [],[]=>true
 | x::l,y::r=>match f x y with
   | true=>vT f l r
   | false=>false
 | _,_=>false
theorem gM {α:Type} {f:α→α→Bool} (hf:∀x y,f x y=true→x=y):∀(l r:List α),vT f l r=true→l=r
 | [],[],_=>rfl
 | [],_::_,h=>by simp [vT] at h
 | _::_,[],h=>by simp [vT] at h
 | x::l,y::r,h=>by
   simp only [vT] at h;split at h
   ·rename_i e;rw [hf x y e,gM hf l r h]
   ·cases h
def xV:Bool→Bool→Bool
 | true,true=>true
 | false,false=>true
 | _,_=>false
theorem vU {a b:Bool} (h:xV a b=true):a=b:=by cases a<;>cases b<;>first | rfl | (simp [xV] at h)
def KE:Int→Int→Bool
 | .ofNat a,.ofNat b=>Nat.beq a b
 | .negSucc a,.negSucc b=>Nat.beq a b
 | _,_=>false
theorem FC {a b:Int} (h:KE a b=true):a=b:=by
 cases a<;>cases b<;>simp only [KE] at h
 ·rw [cB h]
 ·cases h
 ·cases h
 ·rw [cB h]
def FD (a b:UInt8):Bool:=Nat.beq a.toNat b.toNat
theorem vV (a b:UInt8) (h:FD a b=true):a=b:=UInt8.toNat_inj.1 (cB h)
def uN:Nat→DV→DV→Bool
 | 0,_,_=>false
 | n+1,x,y=>match x,y with
   | .bool a,.bool b=>xV a b
   | .int k a,.int k' b=>bif lq k k' then KE a b else false
   | .str a,.str b=>vT FD a b
   | .agg a,.agg b=>vT (uN n) a b
   | .bn a,.bn b=>vT (uN n) a b
   | .aC s a f,.aC s' b f'=>bif Nat.beq s s'&&xV f f' then vT (uN n) a b else false
   | .aG,.aG=>true
   | .ak,.ak=>true
   | .Ba,.Ba=>true
   | .xk,.xk=>true
   | .iface t a,.iface t' b=>bif Nat.beq t t' then uN n a b else false
   | _,_=>false
theorem kX:∀(n:Nat) (x y:DV),uN n x y=true→x=y:=by
 intro n;induction n with
 | zero=>intro x y h;simp [uN] at h
 | succ n ih=>
   intro x y h;have hl:=gM ih;cases x<;>cases y<;>simp only [uN] at h<;>first | rfl | (cases h;done) | skip
   ·rw [vU h]
   ·rename_i k a k' b;cases hk:lq k k' with
    | false=>rw [hk] at h;cases h
    | true=>rw [hk] at h;rw [p9 hk,FC h]
   ·rw [gM vV _ _ h]
   ·rw [hl _ _ h]
   ·rw [hl _ _ h]
   ·rename_i s a f s' b f';cases hk:(Nat.beq s s'&&xV f f') with
    | false=>rw [hk] at h;cases h
    | true=>
      rw [hk] at h;simp only [Bool.and_eq_true] at hk;rw [cB hk.1,vU hk.2,hl _ _ h]
   ·rename_i t a t' b;cases hk:Nat.beq t t' with
    | false=>rw [hk] at h;cases h
    | true=>rw [hk] at h;rw [cB hk,ih _ _ h]
def eqFn:Fn→Fn→Bool
 | .func a,.func b=>Nat.beq a b
 | _,_=>false
theorem Jd {a b:Fn} (h:eqFn a b=true):a=b:=by
 cases a<;>cases b<;>simp only [eqFn] at h<;>first | (rw [cB h]) | (cases h)
def Rm:Option Nat→Option Nat→Bool
 | none,none=>true
 | some a,some b=>Nat.beq a b
 | _,_=>false
theorem Je {a b:Option Nat} (h:Rm a b=true):a=b:=by
 cases a<;>cases b<;>simp only [Rm] at h<;>first | rfl | (cases h;done) | (rw [cB h])
def uO:Nat→RV→RV→Bool
 | 0,_,_=>false
 | n+1,x,y=>match x,y with
   | .bot,.bot=>true
   | .und,.und=>true
   | .d a,.d b=>uN 12 a b
   | .ptr i o,.ptr j p=>Nat.beq i j&&Nat.beq o p
   | .gU i s k o,.gU j s' k' p=>Nat.beq i j&&Nat.beq s s'&&Nat.beq k k'&&Nat.beq o p
   | .bB a o,.bB b p=>Nat.beq o p&&uN 12 a b
   | .own i s,.own j s'=>Nat.beq i j&&Nat.beq s s'
   | .sub i s o l,.sub j s' p l'=>Nat.beq i j&&Nat.beq s s'&&Nat.beq o p&&Nat.beq l l'
   | .sl i s o l c,.sl j s' p l' c'=>Nat.beq i j&&Nat.beq s s'&&Nat.beq o p&&Nat.beq l l'&&Rm c c'
   | .map i,.map j=>Nat.beq i j
   | .gI f a b,.gI f' a' b'=>eqFn f f'&&vT (uO n) a a'&&vT (uO n) b b'
   | .agg a,.agg b=>vT (uO n) a b
   | .bn a,.bn b=>vT (uO n) a b
   | _,_=>false
theorem qj:∀(n:Nat) (x y:RV),uO n x y=true→x=y:=by
 intro n;induction n with
 | zero=>intro x y h;simp [uO] at h
 | succ n ih=>
   intro x y h;have hl:=gM ih;cases x<;>cases y<;>simp only [uO,Bool.and_eq_true] at h<;>first | rfl | (cases h;done) | skip
   ·rw [kX _ _ _ h]
   ·rw [cB h.1,cB h.2]
   ·rw [cB h.1.1.1,cB h.1.1.2,cB h.1.2,cB h.2]
   ·rw [cB h.1,kX _ _ _ h.2]
   ·rw [cB h.1,cB h.2]
   ·rw [cB h.1.1.1,cB h.1.1.2,cB h.1.2,cB h.2]
   ·rw [cB h.1.1.1.1,cB h.1.1.1.2,cB h.1.1.2,cB h.1.2,Je h.2]
   ·rw [cB h]
   ·rw [Jd h.1.1,hl _ _ h.1.2,hl _ _ h.2]
   ·rw [hl _ _ h]
   ·rw [hl _ _ h]
def KF (a b:DV×DV):Bool:=uN 12 a.1 b.1&&uN 12 a.2 b.2
theorem FE (a b:DV×DV) (h:KF a b=true):a=b:=by
 simp only [KF,Bool.and_eq_true] at h;exact Prod.ext (kX _ _ _ h.1) (kX _ _ _ h.2)
def FH:av→av→Bool
 | .box t a,.box t' b=>Nat.beq t t'&&vT (uO 8) a b
 | .bW t a,.bW t' b=>Nat.beq t t'&&vT (uO 8) a b
 | .arr t s a,.arr t' s' b=>Nat.beq t t'&&Nat.beq s s'&&vT (uN 12) a b
 | .jL s a,.jL s' b=>Nat.beq s s'&&vT (uN 12) a b
 | .gone,.gone=>true
 | .VX a,.VX b=>vT FD a b
 | .map a,.map b=>vT KF a b
 | _,_=>false
theorem uP (a b:av) (h:FH a b=true):a=b:=by
 cases a<;>cases b<;>simp only [FH,Bool.and_eq_true] at h<;>first | rfl | (cases h;done) | skip
 ·rw [cB h.1,gM (qj 8) _ _ h.2]
 ·rw [cB h.1.1,cB h.1.2,gM (kX 12) _ _ h.2]
 ·rw [cB h.1,gM (kX 12) _ _ h.2]
 ·rw [gM vV _ _ h]
 ·rw [gM FE _ _ h]
 ·rw [cB h.1,gM (qj 8) _ _ h.2]
def Aa (o:Option av) (p:av):Bool:=match o with
 | some q=>FH q p
 | none=>false
def nE (O:Tab) (u:List (Nat×av)):List (Nat×av):=u.filter fun p=>!(Aa (O p.1) p.2)
theorem nG:∀(u:List (Nat×av)) (O:Tab) (i:Nat),nodupB (u.map (·.1))=true→(∃p,(i,p)∈u∧aX O u i=some p)∨((∀p,(i,p)∉u)∧aX O u i=O i)
 | [],O,i,_=>.inr ⟨by simp,rfl⟩
 | (j,q)::u,O,i,h=>by
   simp only [List.map_cons,nodupB,Bool.and_eq_true,Bool.not_eq_true'] at h;have hstep:aX O ((j,q)::u) i=aX (bF O j (some q)) u i:=rfl;rcases nG u (bF O j (some q)) i h.2 with ⟨p,h1,h2⟩ | ⟨h1,h2⟩
   ·exact .inl ⟨p,by simp [h1],by rw [hstep,h2]⟩
   ·by_cases e:i=j
    ·subst e;exact .inl ⟨q,by simp,by rw [hstep,h2,bN]⟩
    ·refine .inr ⟨fun p hp=>?_,by rw [hstep,h2,dP _ _ e]⟩;rcases List.mem_cons.1 hp with hp | hp
     ·injection hp with e1 e2;exact e e1
     ·exact h1 p hp
theorem qX {u:List (Nat×av)} {f:Nat×av→Bool}:nodupB (u.map (·.1))=true→nodupB ((u.filter f).map (·.1))=true:=by
 induction u with
 | nil=>intro h;exact h
 | cons a u ih=>
   intro h;simp only [List.map_cons,nodupB,Bool.and_eq_true,Bool.not_eq_true'] at h;rw [List.filter_cons];split
   ·simp only [List.map_cons,nodupB,Bool.and_eq_true,Bool.not_eq_true'];refine ⟨?_,ih h.2⟩;rw [List.any_eq_false] at h ⊢;intro x hx;refine h.1 x ?_;simp only [List.mem_map,List.mem_filter] at hx ⊢;obtain ⟨y,⟨hy,_⟩,rfl⟩:=hx;exact ⟨y,hy,rfl⟩
   ·exact ih h.2
theorem zk {O:Tab} {u:List (Nat×av)} (h:nodupB (u.map (·.1))=true):aX O (nE O u)=aX O u:=by
 funext i
 have Ws:∀p q,(i,p)∈u→(i,q)∈u→p=q:=by
  intro p q hp hq;rcases nG u O i h with ⟨r,h1,h2⟩ | ⟨h1,_⟩
  ·have key:∀(u:List (Nat×av)),nodupB (u.map (·.1))=true→∀p q,(i,p)∈u→(i,q)∈u→p=q:=by
    intro u;induction u with
    | nil=>intro _ p q hp;simp at hp
    | cons a u ih=>
      intro hn p q hp hq;simp only [List.map_cons,nodupB,Bool.and_eq_true,Bool.not_eq_true'] at hn
      have hne:∀r,a.1=i→(i,r)∉u:=fun r e hr=>by
       have:=List.any_eq_false.1 hn.1 i (List.mem_map.2 ⟨(i,r),hr,rfl⟩)
       rw [e,vK rfl] at this;simp at this
      rcases List.mem_cons.1 hp with e1 | hp2
      ·rcases List.mem_cons.1 hq with e2 | hq2
       ·rw [←e1] at e2;injection e2 with _ e;exact e.symm
       ·exact absurd hq2 (hne q (by rw [←e1]))
      ·rcases List.mem_cons.1 hq with e2 | hq2
       ·exact absurd hp2 (hne p (by rw [←e2]))
       ·exact ih hn.2 p q hp2 hq2
   exact key u h p q hp hq
  ·exact absurd hp (h1 p)
 rcases nG u O i h with ⟨p,h1,h2⟩ | ⟨h1,h2⟩
 ·rw [h2];rcases nG (nE O u) O i (qX h) with ⟨q,g1,g2⟩ | ⟨g1,g2⟩
  ·rw [g2,Ws p q h1 ((List.mem_filter.1 g1).1)]
  ·rw [g2]
   have hs:Aa (O i) p=true:=by
    cases e:Aa (O i) p with
    | true=>rfl
    | false=>exact absurd (List.mem_filter.2 ⟨h1,by simp [e]⟩) (g1 p)
   unfold Aa at hs;split at hs
   ·rename_i q hq;rw [hq,uP _ _ hs]
   ·cases hs
 ·rw [h2];rcases nG (nE O u) O i (qX h) with ⟨q,g1,g2⟩ | ⟨g1,g2⟩
  ·exact absurd ((List.mem_filter.1 g1).1) (h1 q)
  ·exact g2
end Go.Am
namespace Go.Am
set_option linter.unusedSectionVars false
variable {P:Program} [Gl]
def QA (c:UInt8) (s:List UInt8) (pos:Nat):Int:=bif Nat.ble c.toNat 127 then c.toNat else ((Utf8.decode ⟨s.toArray⟩ pos).1:Nat)
def FI (c:UInt8) (s:List UInt8) (pos:Nat):Nat:=bif Nat.ble c.toNat 127 then 1 else (Utf8.decode ⟨s.toArray⟩ pos).2
theorem Rn {c:UInt8} {s r:List UInt8} {pos:Nat} (h:c::r=s.drop pos):pos < s.length∧((Utf8.decode ⟨s.toArray⟩ pos).1:Int)=QA c s pos∧(Utf8.decode ⟨s.toArray⟩ pos).2=FI c s pos:=by
 have hlt:pos < s.length:=by
  rcases Nat.lt_or_ge pos s.length with h1 | h1
  ·exact h1
  ·rw [List.drop_eq_nil_of_le h1] at h;cases h
 refine ⟨hlt,?_⟩;have hsz:(ByteArray.mk s.toArray).size=s.length:=by simp [ByteArray.size]
 have hlt2:pos < (ByteArray.mk s.toArray).size:=by rw [hsz];exact hlt
 have hc:s[pos]=c:=by
  have:=congrArg List.head? h
  rw [List.head?_drop] at this;simp only [List.head?_cons] at this;rw [List.getElem?_eq_getElem hlt] at this;injection this with this;exact this.symm
 have hce:(ByteArray.mk s.toArray)[pos]'hlt2=c:=by rw [←hc];rfl
 unfold QA FI;cases hb:Nat.ble c.toNat 127 with
 | false=>exact ⟨rfl,rfl⟩
 | true=>
   have hd:=decode_ascii ⟨s.toArray⟩ pos hlt2 (by rw [hce];have:=Nat.le_of_ble_eq_true hb;omega);rw [hce] at hd;rw [hd];exact ⟨rfl,rfl⟩
def wX (E:Env) (O:Tab) (sl t:Nat) (x:RV):Option dz:=
 match O sl,E.und t,x with
 | none,some .string,.d (.str s)=>some { val:=.ptr sl 0,upd:=[(sl,.sit s 0 s)] }
 | none,some (.map _ _),.map i=>match O i with
   | some (.map [])=>some { val:=.ptr sl 0,upd:=[(sl,.NT i)] }
   | _=>none
 | _,_,_=>none
def BG (O:Tab) (x:RV) (str:Bool):Option dz:=
 match x with
 | .ptr j 0=>match O j,str with
   | some (.sit s pos rest),true=>match rest with
     | []=>some { val:=.d (.bn [.bool false]) }
     | c::r=>some { val:=.d (.bn [.bool true,.int .i64 pos,.int .i32 (QA c s pos)]),upd:=[(j,.sit s (pos+FI c s pos) ((c::r).drop (FI c s pos)))] }
   | some (.NT i),false=>match O i with
     | some (.map [])=>some { val:=.d (.bn [.bool false]) }
     | _=>none
   | _,_=>none
 | _=>none
theorem Wt {κ:bE} {h:Heap} (b:Bool):DR κ h (.bn [.bool b]) (.tuple #[.bool b]):=by
 refine .bn rfl (fun i x v hx hv=>?_);cases i with
 | zero=>simp at hx hv;subst hx;subst hv;exact .bool _
 | succ i=>simp at hx
theorem KM {κ:bE} {φ:bP} {w:World} {s:cu} {a:Act} (F:aA κ φ w s a) {sl t:Nat} {x:RV} {v:Value} {res:dz}
 (hx:wX (Env.of P) s.O sl t x=some res) (r:bJ κ φ s.O w.heap x v):Out P κ φ w s a res.val res.upd (Instr.range t v):=by
 unfold wX at hx;split at hx
 ·rename_i st hO hu;injection hx with hx;subst hx;cases r with
  | d hd=>
  cases hd
  obtain ⟨q1,q2,q3⟩:=F.alloc (i:=sl) (p:=.sit st 0 st) (o:=.stringIter ⟨st.toArray⟩ 0) (w':={ w with heap:=w.heap.push (.stringIter ⟨st.toArray⟩ 0) }) rfl hO
   (fun M=>⟨_,aS _ _ _,cZ _ _ _,aW _ _,rfl⟩)
  refine ⟨_,_,_,iG φ sl (.at w.heap.size),?_,q1,.ptr (aS _ _ _),q3,q2.kp⟩;simp only [Instr.range,Sem.run_bind,aL hu,Result.andThen_ok,Sem.run_pure];rfl
 ·rename_i k e i hO hu;split at hx
  ·rename_i hi;injection hx with hx;subst hx;have ho:=F.objs i;rw [hi] at ho;obtain ⟨b,eB,clock,h1,h2,h3,h4,h5⟩:=ho;cases r with
   | map hφ=>
   rename_i b'
   have:b'=b:=by rw [h1] at hφ;injection hφ with e;exact e.symm
   subst this;have hne:i≠sl:=by rintro rfl;rw [hi] at hO;cases hO
   obtain ⟨q1,q2,q3⟩:=F.alloc (i:=sl) (p:=.NT i) (o:=.mapIter (some b') clock #[] clock) (w':={ w with heap:=w.heap.push (.mapIter (some b') clock #[] clock) }) rfl hO
    (fun M=>⟨_,b',clock,aS _ _ _,cZ _ _ _,by rw [lY _ _ hne];exact h1,aW _ _⟩)
   refine ⟨_,_,_,iG φ sl (.at w.heap.size),?_,q1,.ptr (aS _ _ _),q3,q2.kp⟩;have hg:(getObj b').run P w = .ok (.map eB clock) w:=by simp [getObj,Sem.run,h3]
   simp only [Instr.range,Sem.run_bind,aL hu,Result.andThen_ok,Sem.run_pure,hg];rfl
  ·cases hx
 ·cases hx
theorem OA {κ:bE} {φ:bP} {w:World} {s:cu} {a:Act} (F:aA κ φ w s a) {x:RV} {v:Value} {str:Bool} {ty:TypeId} {res:dz}
 (hx:BG s.O x str=some res) (r:bJ κ φ s.O w.heap x v):Out P κ φ w s a res.val res.upd (Instr.next v str ty):=by
 unfold BG at hx;split at hx
 ·rename_i j;cases r with
  | ptr hφ=>
  rename_i b;split at hx
  ·rename_i st pos rest hO;have ho:=F.objs j;rw [hO] at ho;obtain ⟨b',h1,h2,h3,h4⟩:=ho
   have:b'=b:=by rw [h1] at hφ;injection hφ
   subst this;have hg:(getObj b').run P w = .ok (.stringIter ⟨st.toArray⟩ pos) w:=by simp [getObj,Sem.run,h3]
   have hsz:(ByteArray.mk st.toArray).size=st.length:=by simp [ByteArray.size]
   split at hx
   ·injection hx with hx;subst hx
    have hlt:¬pos < st.length:=fun h=>by
     have:=congrArg List.length h4
     rw [List.length_drop,List.length_nil] at this;omega
    refine Out.pure F (v:=.tuple #[.bool false]) ?_ (.d (Wt _));simp only [Instr.next,Sem.run_bind,hg,Result.andThen_ok,hsz];rw [if_neg hlt];rfl
   ·rename_i c r0;injection hx with hx;subst hx;obtain ⟨hlt,d1,d2⟩:=Rn h4;have hlt2:pos < (ByteArray.mk st.toArray).size:=by rw [hsz];exact hlt
    have hq:∀(o:Obj),(setObj b' o).run P w = .ok () (World.row w b' o):=fun o=>by simp [setObj,Sem.run,h3,World.row]
    obtain ⟨q1,q2,q3⟩:=F.write (i:=j) (p:=.sit st (pos+FI c st pos) ((c::r0).drop (FI c st pos))) (o:=.stringIter ⟨st.toArray⟩ (pos+FI c st pos)) h2 h1
     (fun c ty fz e=>by rw [h3] at e;cases e) (fun n hn=>by simp [av.dB] at hn) (fun M=>⟨b',h1,h2,dL h3,by rw [h4,List.drop_drop]⟩)
    refine ⟨.tuple #[.bool true,goInt pos,.int .i32 (QA c st pos)],_,κ,φ,?_,q1,.d (.bn rfl (fun i x v hx hv=>?_)),q3,q2.kp⟩
    ·simp only [Instr.next,Sem.run_bind,hg,Result.andThen_ok,hsz];rw [if_pos hlt];rw [←d1,←d2];simp only [Sem.run_bind,hq,Result.andThen_ok,Sem.run_pure]
    ·match i,hx,hv with
     | 0,hx,hv=>simp at hx hv;subst hx;subst hv;exact .bool _
     | 1,hx,hv=>simp at hx hv;subst hx;subst hv;exact eU _
     | 2,hx,hv=>simp at hx hv;subst hx;subst hv;exact .int _ _
     | i+3,hx,hv=>simp at hx
  ·rename_i m hO;split at hx
   ·rename_i hm;injection hx with hx;subst hx;have ho:=F.objs j;rw [hO] at ho;obtain ⟨b',mb,c,h1,h2,h3,h4⟩:=ho
    have:b'=b:=by rw [h1] at hφ;injection hφ
    subst this;have hmo:=F.objs m;rw [hm] at hmo;obtain ⟨b2,eB,clock,k1,k2,k3,k4,k5⟩:=hmo
    have:b2=mb:=by rw [h3] at k1;injection k1 with e;exact e.symm
    subst this
    have hme:eB = #[]:=by
     apply Array.eq_empty_of_size_eq_zero;simpa using k4.1
    subst hme;have hg:(getObj b').run P w = .ok (.mapIter (some b2) c #[] c) w:=by simp [getObj,Sem.run,h4]
    have hg2:(getObj b2).run P w = .ok (.map #[] clock) w:=by simp [getObj,Sem.run,k3]
    refine Out.pure F (v:=.tuple #[.bool false]) ?_ (.d (Wt _));simp only [Instr.next,Sem.run_bind,hg,hg2,Result.andThen_ok];have hf:∀p:MapEntry→Bool,(#[]:Array MapEntry).filter p = #[]:=fun p=>by apply Array.ext';simp
    simp only [hf];simp [choose,Sem.run,Question.forced]
   ·cases hx
  ·cases hx
 ·cases hx
end Go.Am
