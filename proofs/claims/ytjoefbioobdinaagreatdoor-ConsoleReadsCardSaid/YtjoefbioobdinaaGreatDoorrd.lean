/-
  Texts that the claim leans on: AmRef, AmRef2, AmRef3, AmRef4, AmEqb, AmIt.
-/
import Derived.Test.YtjoefbioobdinaaGreatDoorrc
import Derived.Laws.RangeString
namespace Go.Am
set_option linter.unusedSectionVars false
variable {P:Program} [Gl]
def bR (O:Tab) (i:Nat):Option (List RV):=
 match O i with
 | some (.box _ cs)=>some cs
 | some (.bO _ cs)=>some cs
 | _=>none
def wT (O:Tab) (i:Nat) (cs:List RV):ay:=
 match O i with
 | some (.box ty _)=>.box ty cs
 | some (.bO ty _)=>.bO ty cs
 | _=>.gone
theorem qh {κ:bB} {φ:bJ} {w:World} {s:bQ} {a:Act} (F:aC κ φ w s a) {i:Nat} {cs:List RV} (h:bR s.O i=some cs) :
 ∃b c ty fz,φ i = .at b∧κ b = .own i∧w.heap[b]? = some (.cells c ty fz)∧uM fz c.size∧RL κ φ s.O w.heap c 0 cs∧((∃t,s.O i=some (.box t cs))→c.size=cs.length):=by
 unfold bR at h;have ho:=F.objs i;split at h
 ·rename_i t cs' he;injection h with h;subst h;rw [he] at ho;obtain ⟨b,c,h1,h2,h3,h4,h5,h6⟩:=ho;refine ⟨b,c,t,(0,0),h1,h2,h3,rT _,⟨by omega,fun j x v hx hv=>⟨h6 j x v hx (by simpa using hv),h5 v ?_⟩⟩,fun _=>h4⟩;exact Array.mem_iff_getElem?.2 ⟨_,hv⟩
 ·rename_i t cs' he;injection h with h;subst h;rw [he] at ho;obtain ⟨b,c,fz,h1,h2,h3,h4,h5⟩:=ho;exact ⟨b,c,t,fz,h1,h2,h3,h4.1,h5,fun ⟨t',e⟩=>by rw [he] at e;cases e⟩
 ·simp at h
theorem RL.splice {κ κ' : bB} {φ φ' : bJ} {O O' : Tab} {h h' : Heap} (M:dW κ φ O h κ' φ' O' h') {c:Array Value} {cs ys:List RV} {o:Nat} {vs:List Value} (r:RL κ φ O h c 0 cs)
 (ho:o+ys.length≤cs.length) (hl:vs.length=ys.length) (hr:∀(j:Nat) (x:RV) (v:Value),ys[j]? = some x→vs[j]? = some v→bE κ φ O h x v∧v.oneCell=true) :
 RL κ' φ' O' h' (fu c o vs) 0 (splice cs o ys):=by
 have h1:=r.1;refine ⟨by rw [gB _ _ _ ho,dY _ _ _ (by omega)];exact h1,fun j x v hx hv=>?_⟩;rw [jk _ _ _ ho] at hx;rw [Nat.zero_add,iC _ _ _ (by omega)] at hv
 have key:bE κ φ O h x v∧v.oneCell=true:=by
  by_cases k1:j < o
  ·rw [if_pos k1] at hx hv;exact r.2 j x v hx (by simpa using hv)
  ·rw [if_neg k1] at hx hv;by_cases k2:j < o+ys.length
   ·rw [if_pos (by omega)] at hx hv;exact hr _ x v hx hv
   ·rw [if_neg (by omega)] at hx hv;exact r.2 j x v hx (by simpa using hv)
 exact ⟨key.1.mono M,key.2⟩
theorem mo {κ:bB} {φ:bJ} {w:World} {s:bQ} {a:Act} (F:aC κ φ w s a) {i b:Nat} {cs ys:List RV} (h:bR s.O i=some cs) (hφ:φ i = .at b) {o:Nat} {vs:List Value}
 (ho:o+ys.length≤cs.length) (hl:vs.length=ys.length) (hr:∀(j:Nat) (x:RV) (v:Value),ys[j]? = some x→vs[j]? = some v→bE κ φ s.O w.heap x v∧v.oneCell=true) (hone:∀v∈vs,v.oneCell=true) :
 ∃c ty fz,w.heap[b]? = some (.cells c ty fz)∧uM fz c.size∧o+vs.length≤c.size∧
  aC κ φ (World.row w b (.cells (fu c o vs) ty fz)) { s with O:=bA s.O i (some (wT s.O i (splice cs o ys))) } a∧
  dW κ φ s.O w.heap κ φ (bA s.O i (some (wT s.O i (splice cs o ys)))) (World.row w b (.cells (fu c o vs) ty fz)).heap∧Fr κ w κ (World.row w b (.cells (fu c o vs) ty fz)):=by
 obtain ⟨b',c,ty,fz,h1,h2,h3,h4,h5,h6⟩:=qh F h;rw [h1] at hφ;injection hφ with hφ;subst hφ;have hcl:=h5.1;have hsize:(fu c o vs).size=c.size:=dY _ _ _ (by omega);refine ⟨c,ty,fz,h3,h4,by omega,F.write h2 h1 (fun c0 RJ RN hc0=>by rw [h3] at hc0;injection hc0 with hc0;injection hc0 with e1 e2 e3;subst e1;subst e2;exact ⟨_,_,rfl,hsize⟩) (fun n hn=>?_) (fun M=>?_)⟩
 ·unfold bR at h;unfold wT at hn;split at h
  ·rename_i t cs' he;rw [he] at hn;simp [ay.dn] at hn
  ·rename_i t cs' he;rw [he] at hn ⊢;injection h with h;subst h;simp only [ay.dn,gB _ _ _ ho] at hn ⊢;exact hn
  ·simp at h
 ·have hs:=RL.splice M h5 ho hl hr;have ho':=F.objs i;unfold bR at h;generalize El:wT s.O i (splice cs o ys)=ob at *;unfold wT at El;split at h
  ·rename_i t cs' he;injection h with h;subst h;rw [he] at El ho';simp only at El;subst El;obtain ⟨b2,c2,g1,g2,g3,g4,g5,g6⟩:=ho';rw [h1] at g1;injection g1 with g1;subst g1;rw [h3] at g3;injection g3 with g3;injection g3 with e1 e2 e3;subst e1;subst e2;subst e3;refine ⟨b',_,h1,h2,dO h3,by rw [hsize,gB _ _ _ ho];exact g4,fun v hv=>?_,fun j x v hx hv=>(hs.2 j x v hx (by simpa using hv)).1⟩;rcases xW hv with hv | hv
   ·exact g5 v hv
   ·exact hone v hv
  ·rename_i t cs' he;injection h with h;subst h;rw [he] at El ho';simp only at El;subst El;obtain ⟨b2,c2,Q0,g1,g2,g3,g4,g5⟩:=ho';rw [h1] at g1;injection g1 with g1;subst g1;rw [h3] at g3;injection g3 with g3;injection g3 with e1 e2 e3;subst e1;subst e2;subst e3;exact ⟨b',_,_,h1,h2,dO h3,by rw [hsize];exact g4,hs⟩
  ·simp at h
theorem oQ {κ:bB} {φ:bJ} {w:World} {s:bQ} {a:Act} (F:aC κ φ w s a) {i sz o len:Nat} {cap:Option Nat} {v:Value} {cs:List RV} (h:bR s.O i=some cs)
 (r:bE κ φ s.O w.heap (.sl i sz o len cap) v):∃b o' fC c ty fz,v = .slice (some ⟨b,o',none⟩) len fC∧φ i = .at b∧κ b = .own i∧w.heap[b]? = some (.cells c ty fz)∧uM fz c.size∧RL κ φ s.O w.heap c 0 cs∧
   (o'=o∨fC=0)∧o'+fC*sz≤c.size∧len≤fC∧(∀k,cap=some k→fC=k)∧(cap=none→∀n,ay.dn (s.O i)=some n→n≤o+fC*sz):=by
 obtain ⟨b',c,ty,fz,h1,h2,h3,h4,h5,h6⟩:=qh F h;cases r with
 | sl hφ hb ho hs hl hc hn=>
   rw [h1] at hφ;injection hφ with hφ;subst hφ;rw [h3] at hb;injection hb with hb;injection hb with e1 e2 e3;subst e1;exact ⟨b',_,_,c,ty,fz,rfl,h1,h2,h3,h4,h5,ho,hs,hl,hc,hn⟩
theorem RL.part {κ:bB} {φ:bJ} {O:Tab} {h:Heap} {c:Array Value} {cs:List RV} (r:RL κ φ O h c 0 cs) {o n:Nat} (ho:o+n≤cs.length) :
 RL κ φ O h (c.extract o (o+n)) 0 ((cs.drop o).take n)∧(c.extract o (o+n)).size=n∧((cs.drop o).take n).length=n:=by
 have h1:=r.1;have hl:((cs.drop o).take n).length=n:=by simp;omega
 have hsz:(c.extract o (o+n)).size=n:=by simp;omega
 refine ⟨⟨by omega,fun j x v hx hv=>?_⟩,hsz,hl⟩;rw [List.getElem?_take] at hx;split at hx
 ·rw [List.getElem?_drop] at hx;rw [Nat.zero_add,Array.getElem?_extract] at hv;split at hv
  ·exact r.2 (o+j) x v hx (by simpa using hv)
  ·simp at hv
 ·simp at hx
def JC (s:List UInt8):List RV:=s.map fun b=>.d (.int .u8 b.toNat)
def jH (O:Tab) (z:Nat) (x:RV):Option (Nat×List RV):=
 match x with
 | .d (.aF 0 [] true)=>some (0,[])
 | .d (.str s)=>bif Nat.beq z 1 then some (s.length,JC s) else none
 | .sl i sz o len _=>match bR O i with
   | some cs=>bif Nat.beq sz z&&Nat.ble (o+len*sz) cs.length then some (len,(cs.drop o).take (len*sz)) else bif Nat.beq len 0 then some (0,[]) else none
   | none=>none
 | _=>none
theorem Iu (s:List UInt8) (i:Nat) (x:RV) (h:(JC s)[i]? = some x):∃b,s[i]? = some b∧x = .d (.int .u8 b.toNat):=by
 simp only [JC,List.getElem?_map] at h;cases e:s[i]? with
 | none=>rw [e] at h;simp at h
 | some b=>rw [e] at h;simp at h;exact ⟨b,rfl,h.symm⟩
theorem RL.nil {κ:bB} {φ:bJ} {O:Tab} {h:Heap}:RL κ φ O h #[] 0 []:=⟨by simp,by simp⟩
theorem wC {κ:bB} {φ:bJ} {w:World} {s:bQ} {a:Act} (F:aC κ φ w s a) {x:RV} {v:Value} {z m:Nat} {xs:List RV}
 (hx:jH s.O z x=some (m,xs)) (r:bE κ φ s.O w.heap x v) :
 xs.length=m*z∧(∀w' : World,w'.heap=w.heap→(Builtin.lenOf v).run P w' = .ok m w')∧
 ∀k,k≤m→∃X,(∀w' : World,w'.heap=w.heap→(Builtin.firstCells z k v).run P w' = .ok X w')∧X.size=k*z∧RL κ φ s.O w.heap X 0 (xs.take (k*z)):=by
 unfold jH at hx;split at hx
 ·injection hx with hx;injection hx with e1 e2;subst e1;subst e2;cases r with
  | d hr=>
    cases hr with
    | iX hf=>
      refine ⟨by simp,fun w' _=>rfl,fun k hk=>⟨#[],fun w' _=>?_,by have:k=0:=(by omega);subst this;simp,by simpa using RL.nil⟩⟩
      have:=(hf rfl).2 rfl;subst this;rfl
    | aF _ _ hf _ _ _ _=>have:=(hf rfl).2;omega
 ·rename_i str;cases hz:Nat.beq z 1 with
  | false=>rw [hz] at hx;simp at hx
  | true=>
    have:=bV hz;subst this
    rw [hz] at hx;simp only [cond_true,Option.some.injEq,Prod.mk.injEq] at hx;obtain ⟨rfl,rfl⟩:=hx;cases r with
    | d hr=>
      cases hr;refine ⟨by simp [JC],fun w' _=>by simp [Builtin.lenOf,ByteArray.size],fun k hk=>⟨((str.take k).toArray.map fun b=>Value.int .u8 b.toNat),fun w' _=>?_,by simp;omega,⟨by simp [JC],fun j x v hx hv=>?_⟩⟩⟩
      ·simp only [Builtin.firstCells]
       have:((⟨str.toArray⟩:ByteArray).extract 0 k).data=(str.take k).toArray:=by
        simp [ByteArray.data_extract]
       rw [this];rfl
      ·rw [Nat.mul_one,List.getElem?_take] at hx;split at hx
       ·obtain ⟨b,hb,rfl⟩:=Iu str j x hx;rw [Nat.zero_add] at hv;simp only [Array.getElem?_map,List.getElem?_toArray,List.getElem?_take] at hv;rw [if_pos (by assumption),hb] at hv;simp at hv;subst hv;exact ⟨.d (.int _ _),rfl⟩
       ·simp at hx
 ·rename_i i sz o len cap;cases hc:bR s.O i with
  | none=>rw [hc] at hx;simp at hx
  | some cs=>
    rw [hc] at hx;simp only at hx;obtain ⟨b,o',fC,c,ty,fz,rfl,h1,h2,h3,h4,h5,h6,h7,h8,h9,h10⟩:=oQ F hc r;cases hg:(Nat.beq sz z&&Nat.ble (o+len*sz) cs.length) with
    | true=>
      rw [hg] at hx;simp only [cond_true,Option.some.injEq,Prod.mk.injEq] at hx;obtain ⟨rfl,rfl⟩:=hx;simp only [Bool.and_eq_true] at hg
      have:=bV hg.1;subst this
      have g2:=Nat.le_of_ble_eq_true hg.2;refine ⟨by simp;omega,fun w' _=>rfl,fun k hk=>?_⟩;have hkz:=Nat.mul_le_mul_right sz hk;have hcl:=h5.1;rcases h6 with rfl | h6
      ·obtain ⟨p1,p2,p3⟩:=h5.part (o:=o') (n:=k*sz) (by omega);refine ⟨c.extract o' (o'+k*sz),fun w' hw=>?_,p2,?_⟩
       ·simp only [Builtin.firstCells];exact dX (by rw [hw];exact h3) (by omega)
       ·rw [List.take_take,Nat.min_eq_left hkz];exact p1
      ·have:k=0:=by omega
       subst this;refine ⟨#[],fun w' _=>?_,by simp,by simpa using RL.nil⟩;simp only [Builtin.firstCells,Nat.zero_mul,loadCells,loadCellsFrom];rfl
    | false=>
      rw [hg] at hx;simp only [cond_false] at hx;cases hl:Nat.beq len 0 with
      | false=>rw [hl] at hx;simp at hx
      | true=>
        have:=bV hl;subst this
        rw [hl] at hx;simp only [cond_true,Option.some.injEq,Prod.mk.injEq] at hx;obtain ⟨rfl,rfl⟩:=hx;refine ⟨by simp,fun w' _=>rfl,fun k hk=>⟨#[],fun w' _=>?_,by have:k=0:=(by omega);subst this;simp,by simpa using RL.nil⟩⟩
        have:k=0:=by omega
        subst this;simp only [Builtin.firstCells,Nat.zero_mul,loadCells,loadCellsFrom];rfl
 ·simp at hx
def qj (E:Env) (O:Tab) (t:Nat) (a:RV):Option cB:=
 match E.size t,a with
 | some z,.ptr i off=>match bR O i with
   | some cs=>bif Nat.ble (off+z) cs.length then
      bif E.isAgg t then some { val:=qZ ((cs.drop off).take z) } else bif Nat.beq z 1 then some { val:=cs.getD off .bot } else none
     else none
   | _=>none
 | _,_=>none
def kK (E:Env) (O:Tab) (t:Nat) (a v:RV):Option cB:=
 match E.size t,a with
 | some z,.ptr i off=>match bR O i with
   | some cs=>bif dU v&&Nat.beq v.cells.length z&&Nat.ble (off+z) cs.length then some { val:=.bot,upd:=[(i,wT O i (splice cs off v.cells))] } else none
   | _=>none
 | _,_=>none
def nG (E:Env) (O:Tab) (sl t:Nat) (v:RV):Option cB:=
 match O sl,E.size t with
 | none,some z=>bif dU v&&Nat.beq v.cells.length z then some { val:=.ptr sl 0,upd:=[(sl,.box t v.cells)] } else none
 | _,_=>none
def jS (sz:Nat):Nat→List (Nat×RV)→Option (List RV)
 | _,[]=>some []
 | k,(i,x)::r=>bif Nat.beq i k&&Nat.beq x.cells.length sz&&dU x then
    match jS sz (k+1) r with
    | some l=>some (x.cells++l)
    | none=>none
   else none
def ku (E:Env) (O:Tab) (sl t len:Nat) (parts:List (Nat×RV)):Option cB:=
 match O sl,E.und t with
 | none,some (.slice e)=>match E.size e,E.zero e with
   | some sz,some _=>bif Nat.beq parts.length len&&Nat.ble (len*sz) 1000000 then
      match jS sz 0 parts with
      | some cs=>some { val:=.sl sl sz 0 len (some len),upd:=[(sl,.bO e cs)] }
      | none=>none
     else none
   | _,_=>none
 | _,_=>none
theorem Lh {κ:bB} {φ:bJ} {w:World} {s:bQ} {a:Act} (F:aC κ φ w s a) {t:Nat} {x:RV} {v:Value} {res:cB}
 (hx:qj (Env.of P) s.O t x=some res) (r:bE κ φ s.O w.heap x v):Out P κ φ w s a res.val res.upd (Instr.loadAt t v):=by
 unfold qj at hx;split at hx
 ·rename_i z i off hz;split at hx
  ·rename_i cs hO;cases hg:Nat.ble (off+z) cs.length with
   | false=>rw [hg] at hx;simp at hx
   | true=>
     rw [hg] at hx;simp only [cond_true] at hx;have g1:=Nat.le_of_ble_eq_true hg;obtain ⟨b,c,ty',fz,h1,h2,h3,h4,h5,_⟩:=qh F hO;cases r with
     | ptr hφ=>
     rw [h1] at hφ;injection hφ with hφ;subst hφ;have hcl:=h5.1;cases ha:(Env.of P).isAgg t with
     | true=>
       rw [ha] at hx;simp only [cond_true,Option.some.injEq] at hx;subst hx;obtain ⟨p1,p2,p3⟩:=h5.part (o:=off) (n:=z) g1;refine Out.pure F (iF hz h3 (by omega) (fun e=>by rw [ha] at e;cases e)) ?_;rw [ha];simp only [if_true];refine nu (by omega) (fun u hu=>?_) (fun j x u hx hu=>(p1.2 j x u hx (by simpa using hu)).1);obtain ⟨j,hj⟩:=Array.mem_iff_getElem?.1 hu;have hlt:=(Array.getElem?_eq_some_iff.1 hj).1;have hlt2:j < ((cs.drop off).take z).length:=by omega
       exact (p1.2 j _ u (List.getElem?_eq_getElem hlt2) (by simpa using hj)).2
     | false=>
       rw [ha] at hx;simp only [cond_false] at hx;cases hz1:Nat.beq z 1 with
       | false=>rw [hz1] at hx;simp at hx
       | true=>
         have:=bV hz1;subst this
         rw [hz1] at hx;simp only [cond_true,Option.some.injEq] at hx;subst hx;refine Out.pure F (iF hz h3 (by omega) (fun _=>rfl)) ?_;rw [ha];simp only [Bool.false_eq_true,if_false];have hlt:off < cs.length:=by omega
         have hlt2:off < c.size:=by omega
         have e1:cs[off]? = some (cs.getD off .bot):=by simp [List.getD,hlt]
         have e2:c[off]? = some (c.getD off undef):=by simp [Array.getD,hlt2]
         exact (h5.2 off _ _ e1 (by simpa using e2)).1
  ·simp at hx
 ·simp at hx
theorem JD {κ:bB} {φ:bJ} {w:World} {s:bQ} {a:Act} (F:aC κ φ w s a) {t:Nat} {x y:RV} {v u:Value} {res:cB}
 (hx:kK (Env.of P) s.O t x y=some res) (r:bE κ φ s.O w.heap x v) (r2:bE κ φ s.O w.heap y u):KP P κ φ w s a res.upd (Instr.storeAt t v u):=by
 unfold kK at hx;split at hx
 ·rename_i z i off hz;split at hx
  ·rename_i cs hc;cases hg:(dU y&&Nat.beq y.cells.length z&&Nat.ble (off+z) cs.length) with
   | false=>rw [hg] at hx;simp at hx
   | true=>
     rw [hg] at hx;simp only [cond_true,Option.some.injEq] at hx;subst hx;simp only [Bool.and_eq_true] at hg;obtain ⟨⟨g1,g2⟩,g3⟩:=hg;have g2:=bV g2;have g3:=Nat.le_of_ble_eq_true g3;cases r with
     | ptr hφ=>
     obtain ⟨c1,c2,c3⟩:=jG r2 g1
     obtain ⟨c,ty',fz,e1,e2,e3,e4,e5,e6⟩:=mo F hc hφ (o:=off) (vs:=u.cells.toList) (ys:=y.cells) (by omega) (by simpa using c1) (fun j x' v' hx' hv'=>⟨c3 j x' v' hx' (by simpa using hv'),c2 v' (by
      have:=List.mem_iff_getElem?.2 ⟨j,hv'⟩;simpa using this)⟩) (fun v' hv'=>c2 v' (by simpa using hv'))
     have hvl:u.cells.toList.length=z:=by simp;omega
     exact ⟨_,κ,φ,kH hz e1 e2 (by omega) (by omega) c2,e4,e6,e5.kp⟩
  ·simp at hx
 ·simp at hx
theorem Ap {κ:bB} {φ:bJ} {w:World} {s:bQ} {a:Act} (F:aC κ φ w s a) {sl t:Nat} {x:RV} {v:Value} {res:cB}
 (hx:nG (Env.of P) s.O sl t x=some res) (r:bE κ φ s.O w.heap x v):Out P κ φ w s a res.val res.upd (do pure (.pointer (some (←newVar t v)))):=by
 unfold nG at hx;split at hx
 ·rename_i z hO hz;cases hg:(dU x&&Nat.beq x.cells.length z) with
  | false=>rw [hg] at hx;simp at hx
  | true=>
    rw [hg] at hx;simp only [cond_true,Option.some.injEq] at hx;subst hx;simp only [Bool.and_eq_true] at hg;obtain ⟨c1,c2,c3⟩:=jG r hg.1
    have hrun:(do pure (Value.pointer (some (←newVar t v))):Sem Value).run P w = .ok (.pointer (some ⟨w.heap.size,0,none⟩)) { w with heap:=w.heap.push (.cells v.cells t (0,0)) }:=by
     simp [xX]
    obtain ⟨q1,q2,q3⟩:=F.alloc (i:=sl) (p:=.box t x.cells) (o:=.cells v.cells t (0,0)) (w':={ w with heap:=w.heap.push (.cells v.cells t (0,0)) }) rfl hO
     (fun M=>⟨_,_,aP _ _ _,bW _ _ _,aS _ _,c1,c2,fun j x' v' hx' hv'=>(c3 j x' v' hx' hv').mono M⟩)
    exact ⟨_,_,_,_,hrun,q1,.ptr (aP _ _ _),q3,q2.kp⟩
 ·simp at hx
theorem tu {κ:bB} {φ:bJ} {O:Tab} {h:Heap} (sz:Nat):∀(k:Nat) (ps:List (Nat×RV)) (cs:List RV) (pv:List (Nat×Value)),jS sz k ps=some cs→pv.length=ps.length→
 (∀(i:Nat) (p:Nat×RV) (q:Nat×Value),ps[i]? = some p→pv[i]? = some q→p.1=q.1∧bE κ φ O h p.2 q.2)→
 cs.length=ps.length*sz∧(∀(i:Nat) (q:Nat×Value),pv[i]? = some q→q.1=k+i∧q.2.cells.size=sz)∧(pv.flatMap fun q=>q.2.cells.toList).length=cs.length∧
 (∀(j:Nat) (x:RV) (v:Value),cs[j]? = some x→(pv.flatMap fun q=>q.2.cells.toList)[j]? = some v→bE κ φ O h x v∧v.oneCell=true)
 | k,[],cs,pv,hp,hl,_=>by
   simp [jS] at hp;subst hp
   have:pv=[]:=List.eq_nil_of_length_eq_zero (by simpa using hl)
   subst this;simp
 | k,(i,x)::ps,cs,[],hp,hl,_=>by simp at hl
 | k,(i,x)::ps,cs,(i',v)::pv,hp,hl,hr=>by
   simp only [jS] at hp;cases hg:(Nat.beq i k&&Nat.beq x.cells.length sz&&dU x) with
   | false=>rw [hg] at hp;simp at hp
   | true=>
     rw [hg] at hp;simp only [cond_true] at hp;simp only [Bool.and_eq_true] at hg;obtain ⟨⟨g1,g2⟩,g3⟩:=hg;have g1:=bV g1;have g2:=bV g2;cases hq:jS sz (k+1) ps with
     | none=>rw [hq] at hp;simp at hp
     | some l=>
       rw [hq] at hp;simp only [Option.some.injEq] at hp;subst hp;obtain ⟨e1,e2⟩:=hr 0 (i,x) (i',v) rfl rfl;simp only at e1 e2;obtain ⟨c1,c2,c3⟩:=jG e2 g3;obtain ⟨d1,d2,d3,d4⟩:=tu (κ:=κ) (φ:=φ) (O:=O) (h:=h) sz (k+1) ps l pv hq (by simpa using hl) (fun i p q hp hq=>hr (i+1) p q (by simpa using hp) (by simpa using hq));have hvl:v.cells.toList.length=x.cells.length:=by simpa using c1
       refine ⟨by simp only [List.length_append,List.length_cons,Nat.add_mul,d1,g2];omega,fun j q hj=>?_,by simp only [List.flatMap_cons,List.length_append,d3,hvl],fun j y u hy hu=>?_⟩
       ·cases j with
        | zero=>simp at hj;subst hj;simp only;exact ⟨by omega,by omega⟩
        | succ j=>have:=d2 j q (by simpa using hj);omega
       ·simp only [List.flatMap_cons] at hu;by_cases hj:j < x.cells.length
        ·rw [List.getElem?_append_left hj] at hy;rw [List.getElem?_append_left (by omega)] at hu;exact ⟨c3 j y u hy (by simpa using hu),c2 u (by have:=List.mem_iff_getElem?.2 ⟨j,hu⟩;simpa using this)⟩
        ·rw [List.getElem?_append_right (by omega)] at hy;rw [List.getElem?_append_right (by omega),hvl] at hu;exact d4 _ y u hy hu
theorem yw {κ:bB} {φ:bJ} {w:World} {s:bQ} {a:Act} (F:aC κ φ w s a) {sl t len:Nat} {parts:List (Nat×RV)} {pv:Array (Nat×Value)} {res:cB}
 (hx:ku (Env.of P) s.O sl t len parts=some res) (hl:pv.size=parts.length)
 (hr:∀(k:Nat) (p:Nat×RV) (q:Nat×Value),parts[k]? = some p→pv[k]? = some q→p.1=q.1∧bE κ φ s.O w.heap p.2 q.2) :
 Out P κ φ w s a res.val res.upd (Instr.buildSlice t len pv):=by
 unfold ku at hx;split at hx
 ·rename_i e hO hu;split at hx
  ·rename_i sz zd hz DT;cases hg:(Nat.beq parts.length len&&Nat.ble (len*sz) 1000000) with
   | false=>rw [hg] at hx;simp at hx
   | true=>
     rw [hg] at hx;simp only [cond_true] at hx;simp only [Bool.and_eq_true] at hg;have g1:=bV hg.1;have g3:=Nat.le_of_ble_eq_true hg.2;cases hp:jS sz 0 parts with
     | none=>rw [hp] at hx;simp at hx
     | some cs=>
       rw [hp] at hx;simp only [Option.some.injEq] at hx;subst hx;obtain ⟨d1,d2,d3,d4⟩:=tu (κ:=κ) (φ:=φ) (O:=s.O) (h:=w.heap) sz 0 parts cs pv.toList hp (by simpa using hl) (fun i p q hp hq=>hr i p q hp (by simpa using hq));obtain ⟨zv,hzv,_⟩:=fG DT w
       have Ef:∀B:Array Value,B.size=len*sz→Instr.fill (fun i=>some (i*sz,sz)) B pv.toList=some (pv.toList.flatMap fun q=>q.2.cells.toList).toArray:=by
        intro B hB
        have:=xZ sz pv.toList 0 B (fun i q hq=>by have:=d2 i q hq;omega) (by rw [hB];simp only [Nat.zero_add,Array.length_toList,hl,g1];exact Nat.le_refl _)
        rw [this];simp only [fu,splice,Nat.zero_mul,List.take_zero,List.nil_append,Nat.zero_add];rw [List.drop_eq_nil_of_le (by rw [d3,d1,g1,Array.length_toList,hB];exact Nat.le_refl _)];simp
       have hrun:(Instr.buildSlice t len pv).run P w = .ok (.slice (some ⟨w.heap.size,0,none⟩) len len) { w with heap:=w.heap.push (.cells (pv.toList.flatMap fun q=>q.2.cells.toList).toArray e (0,0)) }:=by
        simp only [Instr.buildSlice,Sem.run_bind,aK hu,Result.andThen_ok,aW hz]
        rw [if_neg (show ¬(len*sz > 2 ^ 24) by have:(2:Nat) ^ 24=16777216:=by decide
                                               omega)]
        by_cases h0:len*sz=0
        ·rw [if_pos h0];simp only [Sem.run_bind,Sem.run_pure,Result.andThen_ok];rw [Ef _ (by simp)];simp [newRow]
        ·rw [if_neg h0];simp only [Sem.run_bind,hzv,Sem.run_pure,Result.andThen_ok];rw [Ef _ (by simp)];simp [newRow]
       obtain ⟨q1,q2,q3⟩:=F.alloc (i:=sl) (p:=.bO e cs) (o:=.cells (pv.toList.flatMap fun q=>q.2.cells.toList).toArray e (0,0))
        (w':={ w with heap:=w.heap.push (.cells (pv.toList.flatMap fun q=>q.2.cells.toList).toArray e (0,0)) }) rfl hO
        (fun M=>⟨_,_,(0,0),aP _ _ _,bW _ _ _,aS _ _,Ea _ _,by simp [d3],fun j x v hx hv=>by
          have:=d4 j x v hx (by simpa using hv)
          exact ⟨this.1.mono M,this.2⟩⟩)
       refine ⟨_,_,_,iE φ sl (.at w.heap.size),hrun,q1,?_,q3,q2.kp⟩;exact .sl (aP _ _ _) (aS _ _) (.inl rfl) (by simp [d3,d1,g1]) (Nat.le_refl _) (fun k e=>by injection e) (fun e=>by cases e)
  ·simp at hx
 ·simp at hx
def Aq (O:Tab) (i sz o len:Nat) (cap:Option Nat):Nat:=
 match cap with
 | some k=>k
 | none=>match O i with
   | some (.bO _ cs)=>bif Nat.ble len ((cs.length-o) / sz) then (cs.length-o) / sz else len
   | _=>len
def Cc (L len:Nat) (l h m:Option Int):List Bool:=
 (match m with
   | none=>match h with
     | none=>[]
     | some h=>[decide (0≤h∧h≤(L:Int))]
   | some m=>match h with
     | none=>[false]
     | some h=>[decide (0≤m∧m≤(L:Int)),decide (0≤h∧h≤((m.toNat:Nat):Int))]) ++
 (match l with
   | none=>[]
   | some l=>[decide (0≤l∧l≤((dN len h:Nat):Int))])
def kX (cap:Nat):Option Int→Nat
 | none=>cap
 | some m=>m.toNat
theorem oU {isSlice:Bool} {L len cap:Nat} {lo hi mx:Option Int} {yg hiv Kz:Option Value}
 (hlo:(lo=none∧yg=none)∨∃k m,lo=some m∧yg=some (.int k m)) (hhi:(hi=none∧hiv=none)∨∃k m,hi=some m∧hiv=some (.int k m))
 (hmx:(mx=none∧Kz=none)∨∃k m,mx=some m∧Kz=some (.int k m))
 (hc:∀b∈Cc L len lo hi mx,b=true) (hle:len≤cap) (hL:L≤cap) (w:World) :
 (Instr.sliceBounds isSlice len cap yg hiv Kz).run P w = .ok (bI lo,dN len hi,kX cap mx) w∧bI lo≤dN len hi∧dN len hi≤kX cap mx∧kX cap mx≤cap:=by
 have first:(mx=none∧hi=none)∨(mx=none∧∃h,hi=some h∧0≤h∧h≤(L:Int))∨(∃m h,mx=some m∧hi=some h∧(0≤m∧m≤(L:Int))∧(0≤h∧h≤((m.toNat:Nat):Int))):=by
  cases mx with
  | none=>cases hi with
    | none=>exact .inl ⟨rfl,rfl⟩
    | some h=>exact .inr (.inl ⟨rfl,h,rfl,by simpa using hc (decide (0≤h∧h≤(L:Int))) (by simp [Cc])⟩)
  | some m=>cases hi with
    | none=>exact absurd (hc false (by simp [Cc])) (by simp)
    | some h=>exact .inr (.inr ⟨m,h,rfl,rfl,by simpa using hc (decide (0≤m∧m≤(L:Int))) (by simp [Cc]),by simpa using hc (decide (0≤h∧h≤((m.toNat:Nat):Int))) (by simp [Cc])⟩)
 have last:lo=none∨∃l,lo=some l∧0≤l∧l≤((dN len hi:Nat):Int):=by
  cases lo with
  | none=>exact .inl rfl
  | some l=>exact .inr ⟨l,rfl,by simpa using hc (decide (0≤l∧l≤((dN len hi:Nat):Int))) (by simp [Cc])⟩
 have hb:bI lo≤dN len hi:=by
  rcases last with rfl | ⟨l,rfl,h1,h2⟩
  ·simp [bI]
  ·simp only [bI];omega
 have hm:dN len hi≤kX cap mx∧kX cap mx≤cap:=by
  rcases first with ⟨rfl,rfl⟩ | ⟨rfl,h,rfl,h1,h2⟩ | ⟨m,h,rfl,rfl,h1,h2⟩
  ·simp only [dN,kX];omega
  ·simp only [dN,kX];omega
  ·simp only [dN,kX];omega
 refine ⟨?_,hb,hm.1,hm.2⟩;rcases first with ⟨rfl,rfl⟩ | ⟨rfl,h,rfl,h1,h2⟩ | ⟨m,h,rfl,rfl,h1,h2⟩
 ·rcases hmx with ⟨_,rfl⟩ | ⟨_,_,e,_⟩
  ·rcases hhi with ⟨_,rfl⟩ | ⟨_,_,e,_⟩
   ·simp only [Instr.sliceBounds,Sem.run_bind,Sem.run_pure,Result.andThen_ok,dN,kX];rcases hlo with ⟨rfl,rfl⟩ | ⟨kl,l,rfl,rfl⟩
    ·simp [bI]
    ·rcases last with h' | ⟨l',h',q1,q2⟩
     ·cases h'
     ·injection h' with h';subst h';simp only [dN] at q2;simp only [Sem.run_bind,fT (P:=P) (k:=kl) ⟨q1,q2⟩,Result.andThen_ok,Sem.run_pure,bI]
   ·cases e
  ·cases e
 ·rcases hmx with ⟨_,rfl⟩ | ⟨_,_,e,_⟩
  ·rcases hhi with ⟨e,_⟩ | ⟨k,_,e,rfl⟩
   ·cases e
   ·injection e with e;subst e;simp only [Instr.sliceBounds,Sem.run_bind,Sem.run_pure,Result.andThen_ok,dN,kX,fT (P:=P) (k:=k) (show 0≤h∧h≤(cap:Int) by omega)];rcases hlo with ⟨rfl,rfl⟩ | ⟨kl,l,rfl,rfl⟩
    ·simp [bI]
    ·rcases last with h' | ⟨l',h',q1,q2⟩
     ·cases h'
     ·injection h' with h';subst h';simp only [dN] at q2;simp only [Sem.run_bind,fT (P:=P) (k:=kl) ⟨q1,q2⟩,Result.andThen_ok,Sem.run_pure,bI]
  ·cases e
 ·rcases hmx with ⟨e,_⟩ | ⟨km,_,e,rfl⟩
  ·cases e
  ·injection e with e;subst e;rcases hhi with ⟨e,_⟩ | ⟨k,_,e,rfl⟩
   ·cases e
   ·injection e with e;subst e;simp only [Instr.sliceBounds,Sem.run_bind,Result.andThen_ok,dN,kX,fT (P:=P) (k:=km) (show 0≤m∧m≤(cap:Int) by omega),fT (P:=P) (k:=k) h2];rcases hlo with ⟨rfl,rfl⟩ | ⟨kl,l,rfl,rfl⟩
    ·simp [bI]
    ·rcases last with h' | ⟨l',h',q1,q2⟩
     ·cases h'
     ·injection h' with h';subst h';simp only [dN] at q2;simp only [Sem.run_bind,fT (P:=P) (k:=kl) ⟨q1,q2⟩,Result.andThen_ok,Sem.run_pure,bI]
def capOf (cap:Option Nat) (l:Nat):Option Int→Option Nat
 | some m=>some (m.toNat-l)
 | none=>match cap with
   | some k=>some (k-l)
   | none=>none
def nH (E:Env) (O:Tab) (t:Nat) (x:RV) (lo hi mx:Option RV):Option cB:=
 match oN lo,oN hi,oN mx with
 | some l,some h,some m=>match E.und t,x with
   | some (.slice e),.sl i sz o len cap=>match E.size e with
     | some z=>bif Nat.beq sz z&&(bR O i).isSome then some { val:=.sl i sz (o+bI l*sz) (dN len h-bI l) (capOf cap (bI l) m),conds:=Cc (Aq O i sz o len cap) len l h m } else none
     | none=>none
   | some (.slice e),.d (.aF 0 [] true)=>match E.size e with
     | some _=>some { val:=.d (.aF 0 [] true),conds:=Cc 0 0 l h m }
     | none=>none
   | some (.array n e),.ptr i off=>match bR O i,E.size e with
     | some cs,some z=>bif Nat.ble (off+n*z) cs.length then some { val:=.sl i z (off+bI l*z) (dN n h-bI l) (some (kX n m-bI l)),conds:=Cc n n l h m } else none
     | _,_=>none
   | _,_=>none
 | _,_,_=>none
theorem Li {κ:bB} {φ:bJ} {w:World} {s:bQ} {i sz o len:Nat} {cap:Option Nat} {v:Value} (r:bE κ φ s.O w.heap (.sl i sz o len cap) v) :
 ∃a fC,v = .slice a len fC∧Aq s.O i sz o len cap≤fC:=by
 cases r with
 | sl hφ hb ho hs hl hc hn=>
   rename_i b o' fC c ty fz;refine ⟨_,_,rfl,?_⟩;unfold Aq;cases cap with
   | some k=>simp only;rw [hc k rfl];exact Nat.le_refl _
   | none=>
     simp only;split
     ·rename_i ty' cs hO
      have:=hn rfl cs.length (by rw [hO];rfl)
      cases hb:Nat.ble len ((cs.length-o) / sz) with
      | false=>exact hl
      | true=>
        simp only [cond_true];by_cases hz:sz=0
        ·subst hz;simp
        ·exact Nat.div_le_of_le_mul (by rw [Nat.mul_comm];omega)
     ·exact hl
theorem JE {κ:bB} {φ:bJ} {w:World} {s:bQ} {a:Act} (F:aC κ φ w s a) {t:Nat} {x:RV} {lo hi mx:Option RV} {v:Value} {yg hiv Kz:Option Value} {res:cB}
 (hx:nH (Env.of P) s.O t x lo hi mx=some res) (hc:∀b∈res.conds,b=true) (r:bE κ φ s.O w.heap x v)
 (Zj:zG κ φ s.O w.heap lo yg) (Zk:zG κ φ s.O w.heap hi hiv) (Zl:zG κ φ s.O w.heap mx Kz) :
 Out P κ φ w s a res.val res.upd (Instr.sliceAt t v yg hiv Kz):=by
 unfold nH at hx;split at hx
 ·rename_i l h m hl hh hm;have vl:=jR hl Zj;have vh:=jR hh Zk;have vm:=jR hm Zl;split at hx
  ·rename_i e i sz o len cap hu;cases hz:(Env.of P).size e with
   | none=>rw [hz] at hx;simp at hx
   | some z=>
     rw [hz] at hx;simp only at hx;cases hb:(Nat.beq sz z&&(bR s.O i).isSome) with
     | false=>rw [hb] at hx;simp at hx
     | true=>
       rw [hb] at hx;simp only [cond_true,Option.some.injEq] at hx;subst hx;simp only [Bool.and_eq_true] at hb
       have:=bV hb.1;subst this
       obtain ⟨a1,abU,e1,hL⟩:=Li r;cases r with
       | sl hφ hb ho hs hle hcc hn=>
         rename_i b o' fC c ty fz;injection e1 with e1 e2 e3;subst e3;obtain ⟨b1,b2,b3,b4⟩:=oU (P:=P) (isSlice:=true) vl vh vm hc hle hL w
         have hrun:(Instr.sliceAt t (.slice (some ⟨b,o',none⟩) len fC) yg hiv Kz).run P w =
          .ok (.slice (some ⟨b,(if kX fC m=bI l then o' else o'+bI l*sz),none⟩) (dN len h-bI l) (kX fC m-bI l)) w:=by
          simp only [Instr.sliceAt,Instr.slice,Sem.run_bind,aK hu,Result.andThen_ok,b1,aW hz,Sem.run_pure,Option.map_some,gU]
          split<;>rfl
         refine Out.pure F hrun ?_;have hmz:=Nat.mul_le_mul_right sz b4;have hlz:=Nat.mul_le_mul_right sz (show bI l≤kX fC m by omega);refine .sl hφ hb ?_ ?_ (by omega) (fun k hk=>?_) (fun hk n hlen=>?_)
         ·by_cases hne:kX fC m=bI l
          ·right;omega
          ·left;rw [if_neg hne];rcases ho with rfl | ho
           ·rfl
           ·omega
         ·rw [Nat.sub_mul];split
          ·rename_i he;rw [he];omega
          ·omega
         ·cases m with
          | some m=>simp only [capOf,Option.some.injEq] at hk;subst hk;simp [kX]
          | none=>
            cases cap with
            | none=>simp [capOf] at hk
            | some k0=>simp only [capOf,Option.some.injEq] at hk;subst hk;simp [kX,hcc k0 rfl]
         ·cases m with
          | some m=>simp [capOf] at hk
          | none=>
            cases cap with
            | some k0=>simp [capOf] at hk
            | none=>
              have:=hn rfl n hlen
              simp only [kX] at hlz ⊢;rw [Nat.sub_mul];omega
  ·rename_i e hu;cases hz:(Env.of P).size e with
   | none=>rw [hz] at hx;simp at hx
   | some z=>
     rw [hz] at hx;simp only [Option.some.injEq] at hx;subst hx
     have hv:v = .slice none 0 0:=by
      cases r with
      | d hr=>
      cases hr with
      | iX hf=>have:=hf rfl;rw [this.1,this.2 rfl]
      | aF _ _ hf _ _ _ _=>have:=(hf rfl).2;omega
     subst hv;obtain ⟨b1,b2,b3,b4⟩:=oU (P:=P) (isSlice:=true) (cap:=0) vl vh vm hc (Nat.le_refl _) (Nat.le_refl _) w
     have hrun:(Instr.sliceAt t (.slice none 0 0) yg hiv Kz).run P w = .ok (.slice none 0 0) w:=by
      simp only [Instr.sliceAt,Instr.slice,Sem.run_bind,aK hu,Result.andThen_ok,b1,aW hz,Sem.run_pure,Option.map_none];rw [show dN 0 h-bI l=0 by omega,show kX 0 m-bI l=0 by omega]
      split<;>rfl
     exact Out.pure F hrun (.d (.iX (fun _=>⟨rfl,fun _=>rfl⟩)))
  ·rename_i n e i off hu;split at hx
   ·rename_i cs z hcs hz;cases hg:Nat.ble (off+n*z) cs.length with
    | false=>rw [hg] at hx;simp at hx
    | true=>
      rw [hg] at hx;simp only [cond_true,Option.some.injEq] at hx;subst hx;have g1:=Nat.le_of_ble_eq_true hg;obtain ⟨b',c,ty,fz,h1,h2,h3,h4,h5,_⟩:=qh F hcs;have hcl:=h5.1;cases r with
      | ptr hφ=>
        rename_i b;have hφ':=hφ;rw [h1] at hφ';injection hφ' with hφ';subst hφ';obtain ⟨b1,b2,b3,b4⟩:=oU (P:=P) (isSlice:=false) (cap:=n) vl vh vm hc (Nat.le_refl _) (Nat.le_refl _) w
        have hrun:(Instr.sliceAt t (.pointer (some ⟨b',off,none⟩)) yg hiv Kz).run P w =
         .ok (.slice (some ⟨b',(if kX n m=bI l then off else off+bI l*z),none⟩) (dN n h-bI l) (kX n m-bI l)) w:=by
         simp only [Instr.sliceAt,Sem.run_bind,aK hu,Result.andThen_ok,Instr.sureAddr,Sem.run_pure,b1,aW hz,gU]
         split<;>rfl
        refine Out.pure F hrun ?_;have hmz:=Nat.mul_le_mul_right z b4;have hlz:=Nat.mul_le_mul_right z (show bI l≤kX n m by omega);refine .sl hφ h3 ?_ ?_ (by omega) (fun k hk=>by injection hk) (fun hk=>by cases hk)
        ·by_cases hne:kX n m=bI l
         ·right;omega
         ·left;rw [if_neg hne]
        ·rw [Nat.sub_mul];split
         ·rename_i he;rw [he];omega
         ·omega
   ·simp at hx
  ·simp at hx
 ·simp at hx
def nY (E:Env) (t:Nat) (x i:RV):Option cB:=
 match E.und t,x,i with
 | some (.slice e),.sl j sz o len _,.d (.int _ n)=>match E.size e with
   | some z=>bif Nat.beq sz z then some { val:=.ptr j (o+n.toNat*sz),conds:=[decide (0≤n∧n < (len:Int))] } else none
   | none=>none
 | some (.array len e),.ptr j off,.d (.int _ n)=>match E.size e with
   | some z=>some { val:=.ptr j (off+n.toNat*z),conds:=[decide (0≤n∧n < (len:Int))] }
   | none=>none
 | _,_,_=>none
theorem zI {κ:bB} {φ:bJ} {w:World} {s:bQ} {a:Act} (F:aC κ φ w s a) {t:Nat} {x i:RV} {v iv:Value} {res:cB}
 (hx:nY (Env.of P) t x i=some res) (hc:∀b∈res.conds,b=true) (r:bE κ φ s.O w.heap x v) (ri:bE κ φ s.O w.heap i iv) :
 Out P κ φ w s a res.val res.upd (Instr.indexAt t v iv):=by
 unfold nY at hx;split at hx
 ·rename_i e j sz o len cap k n hu;cases hz:(Env.of P).size e with
  | none=>rw [hz] at hx;simp at hx
  | some z=>
    rw [hz] at hx;simp only at hx;cases hb:Nat.beq sz z with
    | false=>rw [hb] at hx;simp at hx
    | true=>
      have:=bV hb;subst this
      rw [hb] at hx;simp only [cond_true,Option.some.injEq] at hx;subst hx;have hn:0≤n∧n < (len:Int):=by simpa using hc
      cases ri with
      | d RP=>
      cases RP;cases r with
      | sl hφ hb ho hs hle hcc hnn=>
        rename_i b o' fC c ty fz;rcases ho with rfl | ho
        ·refine Out.pure F (v:=.pointer (some ⟨b,o'+n.toNat*sz,none⟩)) ?_ (.ptr hφ);simp only [Instr.indexAt,asIntOf,Sem.run_bind,Sem.run_pure,Result.andThen_ok,aK hu];rw [if_pos hn];simp [aW hz,gU]
        ·omega
 ·rename_i len e j off k n hu;cases hz:(Env.of P).size e with
  | none=>rw [hz] at hx;simp at hx
  | some z=>
    rw [hz] at hx;simp only [Option.some.injEq] at hx;subst hx;have hn:0≤n∧n < (len:Int):=by simpa using hc
    cases ri with
    | d RP=>
    cases RP;cases r with
    | ptr hφ=>
      rename_i b;refine Out.pure F (v:=.pointer (some ⟨b,off+n.toNat*z,none⟩)) ?_ (.ptr hφ);simp only [Instr.indexAt,asIntOf,Sem.run_bind,Sem.run_pure,Result.andThen_ok,aK hu,Instr.sureAddr];rw [if_pos hn];simp [aW hz,gU]
 ·simp at hx
def FY (E:Env) (t:Nat) (x:RV):Option cB:=
 match E.und t,x with
 | some (.slice _),.sl _ _ _ len _=>some { val:=.d (.int .i64 (len:Int)) }
 | _,_=>none
theorem O9 {κ:bB} {φ:bJ} {w:World} {s:bQ} {a:Act} (F:aC κ φ w s a) {t ty:Nat} {x:RV} {v:Value} {res:cB}
 (hx:FY (Env.of P) t x=some res) (r:bE κ φ s.O w.heap x v):Out P κ φ w s a res.val res.upd (Builtin.len_ #[t] ty #[v]):=by
 unfold FY at hx;split at hx
 ·rename_i e j sz o len cap hu;injection hx with hx;subst hx;cases r with
  | sl hφ hb ho hs hle hcc hnn=>
    refine Out.pure F (v:=goInt len) ?_ (.d (fA _));have e0:(#[t]:Array TypeId)[0]? = some t:=rfl;have e1:∀(v:Value),(#[v]:Array Value)[0]? = some v:=fun v=>rfl;simp only [Builtin.len_,e0,e1,Sem.run_bind,aK hu,Result.andThen_ok,Sem.run_pure]
 ·simp at hx
def FZ (E:Env) (t:Nat) (x:RV):Option cB:=
 match E.und t,x with
 | some (.slice _),.sl _ _ _ _ (some k)=>some { val:=.d (.int .i64 (k:Int)) }
 | some (.slice _),.d (.aF 0 [] true)=>some { val:=.d (.int .i64 0) }
 | _,_=>none
theorem Pb {κ:bB} {φ:bJ} {w:World} {s:bQ} {a:Act} (F:aC κ φ w s a) {t ty:Nat} {x:RV} {v:Value} {res:cB}
 (hx:FZ (Env.of P) t x=some res) (r:bE κ φ s.O w.heap x v):Out P κ φ w s a res.val res.upd (Builtin.cap_ #[t] ty #[v]):=by
 have e0:(#[t]:Array TypeId)[0]? = some t:=rfl;have e1:∀(v:Value),(#[v]:Array Value)[0]? = some v:=fun v=>rfl;unfold FZ at hx;split at hx
 ·rename_i e j sz o len k hu;injection hx with hx;subst hx;cases r with
  | sl hφ hb ho hs hle hcc hnn=>
    have:=hcc k rfl;subst this
    refine Out.pure F (v:=goInt _) ?_ (.d (fA _));simp only [Builtin.cap_,e0,e1,Sem.run_bind,aK hu,Result.andThen_ok,Sem.run_pure]
 ·rename_i e hu;injection hx with hx;subst hx
  have hv:v = .slice none 0 0:=by
   cases r with
   | d hr=>
   cases hr with
   | iX hf=>have:=hf rfl;rw [this.1,this.2 rfl]
   | aF _ _ hf _ _ _ _=>have:=(hf rfl).2;omega
  subst hv;refine Out.pure F (v:=goInt 0) ?_ (.d (fA _));simp only [Builtin.cap_,e0,e1,Sem.run_bind,aK hu,Result.andThen_ok,Sem.run_pure];rfl
 ·simp at hx
def yx (E:Env) (op:BinOp) (t:Nat) (x y:RV):Option cB:=
 match E.und t,x,y with
 | some (.slice _),.sl _ _ _ _ _,.d (.aF 0 [] true)=>match wO op false with
   | some v=>some { val:=v }
   | none=>none
 | _,_,_=>none
theorem Pd {κ:bB} {φ:bJ} {w:World} {s:bQ} {a:Act} (F:aC κ φ w s a) {op:BinOp} {t:Nat} {x y:RV} {xo yo:Operand} {v u:Value} {res:cB}
 (hx:yx (Env.of P) op t x y=some res) (r:bE κ φ s.O w.heap x v) (r2:bE κ φ s.O w.heap y u) :
 Out P κ φ w s a res.val res.upd (do eqGuard op t xo yo v u;binOp op t v u):=by
 unfold yx at hx;split at hx
 ·rename_i e j sz o len cap hu;split at hx
  ·rename_i z he;injection hx with hx;subst hx
   have hu2:u = .slice none 0 0:=by
    cases r2 with
    | d hr=>
    cases hr with
    | iX hf=>have:=hf rfl;rw [this.1,this.2 rfl]
    | aF _ _ hf _ _ _ _=>have:=(hf rfl).2;omega
   subst hu2;cases r with
   | sl hφ hb ho hs hle hcc hnn=>
     rename_i b o' fC c ty fz
     have g:(eqGuard op t xo yo (.slice (some ⟨b,o',none⟩) len fC) (.slice none 0 0)).run P w = .ok () w:=by
      unfold eqGuard;cases op<;>rfl
     have hq:=Ej (P:=P) 9999 t (some ⟨b,o',none⟩) len fC 0 0 hu w;rcases ko he with ⟨rfl,rfl⟩ | ⟨rfl,rfl⟩
     ·exact Out.pure F (v:=.bool false) (by simp only [Sem.run_bind,g,Result.andThen_ok];exact (sZ w hq).1) (.d (.bool _))
     ·exact Out.pure F (v:=.bool (!false)) (by simp only [Sem.run_bind,g,Result.andThen_ok];exact (sZ w hq).2) (.d (.bool _))
  ·simp at hx
 ·simp at hx
theorem RL.concat {κ:bB} {φ:bJ} {O:Tab} {h:Heap} {X Y R:Array Value} {xs ys:List RV} (y:RL κ φ O h Y 0 ys) (hy:Y.size=ys.length) (x:RL κ φ O h X 0 xs) (hx:X.size=xs.length) :
 RL κ φ O h (Y++X++R) 0 (ys++xs):=by
 refine ⟨by simp [hx,hy],fun j v u hv hu=>?_⟩;rw [Nat.zero_add] at hu;by_cases hj:j < ys.length
 ·rw [List.getElem?_append_left hj] at hv;rw [Array.append_assoc,Array.getElem?_append_left (by omega)] at hu;exact y.2 j v u hv (by simpa using hu)
 ·rw [List.getElem?_append_right (by omega)] at hv;have hlt:=(List.getElem?_eq_some_iff.1 hv).1;rw [Array.append_assoc,Array.getElem?_append_right (by omega),Array.getElem?_append_left (by omega),hy] at hu;exact x.2 _ v u hv (by simpa using hu)
theorem RL.over {κ:bB} {φ:bJ} {O:Tab} {h:Heap} {c X:Array Value} {cs xs:List RV} {n:Nat} (y:RL κ φ O h c 0 cs) (hn:n≤cs.length) (x:RL κ φ O h X 0 xs) (hx:X.size=xs.length) (hs:n+xs.length≤c.size) :
 RL κ φ O h (fu c n X.toList) 0 (cs.take n++xs):=by
 have hX:X.toList.length=xs.length:=by simpa using hx
 have htl:(cs.take n).length=n:=by simp;omega
 refine ⟨by rw [dY _ _ _ (by omega)];simp;omega,fun j v u hv hu=>?_⟩;rw [Nat.zero_add,iC _ _ _ (by omega)] at hu;by_cases hj:j < n
 ·rw [List.getElem?_append_left (by omega),List.getElem?_take,if_pos hj] at hv;rw [if_pos hj] at hu;exact y.2 j v u hv (by simpa using hu)
 ·rw [List.getElem?_append_right (by omega),htl] at hv;have hlt:=(List.getElem?_eq_some_iff.1 hv).1;rw [if_neg hj,if_pos (by omega)] at hu;exact x.2 _ v u hv (by simpa using hu)
section
variable {w:World} {e z iP t t2 len n:Nat} {cap:Nat} {vx:Value} {X:Array Value} {Ah:TypeDesc}
 (hu:(Env.of P).und t=some (.slice e)) (hu2:(Env.of P).und t2=some Ah) (hni:∀k,Ah≠.int k) (hz:(Env.of P).size e=some z)
 (hl:(Builtin.lenOf vx).run P w = .ok n w) (hX:(Builtin.firstCells z n vx).run P w = .ok X w)
include hu hu2 hni hz hl hX
theorem oJ {b o:Nat} {c:Array Value} {ty:TypeId} {fz:Nat×Nat} (hfit:len+n≤cap) (hb:w.heap[b]? = some (.cells c ty fz)) (hf:uM fz c.size)
 (hs:o+len*z+X.size≤c.size) (h1:∀v∈X,v.oneCell=true) :
 (Builtin.append_ #[t,t2] t #[.slice (some ⟨b,o,none⟩) len cap,vx]).run P w = .ok (.slice (some ⟨b,o,none⟩) (len+n) cap) (World.row w b (.cells (fu c (o+len*z) X.toList) ty fz)):=by
 simp only [Builtin.append_]
 rw [show (#[t,t2]:Array TypeId)[0]? = some t from rfl,show (#[t,t2]:Array TypeId)[1]? = some t2 from rfl,
  show (#[Value.slice (some ⟨b,o,none⟩) len cap,vx]:Array Value)[0]? = some (.slice (some ⟨b,o,none⟩) len cap) from rfl,show (#[Value.slice (some ⟨b,o,none⟩) len cap,vx]:Array Value)[1]? = some vx from rfl]
 have _:=hni;have _:=hX;simp only [Sem.run_bind,aK hu,Result.andThen_ok,aW hz,aK hu2,Sem.run_pure,Bool.false_eq_true,if_false,hl];rw [if_pos hfit]
 have:=dG (P:=P) b (o+len*z) ty fz X.toList 0 c w hb hf (by simpa using hs) (by simpa using h1)
 simp only [Bool.not_false,if_true,Sem.run_bind,hX,Result.andThen_ok,gU];rw [this];simp
end
theorem nZ {κ:bB} {φ:bJ} {w:World} {s:bQ} {a:Act} (F:aC κ φ w s a) {d e z iP t t2 len m:Nat} {ys xs:List RV} {base:Option Addr} {cap:Nat} {vx:Value} {X Y:Array Value} {Ah:TypeDesc}
 (hd:s.O d=none) (hu:(Env.of P).und t=some (.slice e)) (hu2:(Env.of P).und t2=some Ah) (hni:∀k,Ah≠.int k) (hz:(Env.of P).size e=some z) (hby:(Env.of P).bytes e=some iP)
 (DT:mO (Env.of P) e z=true) (hb1:1≤iP) (hroom:(len+m)*iP≤2 ^ 38) (hfit:¬len+m≤cap)
 (hl:(Builtin.lenOf vx).run P w = .ok m w) (hX:∀w' : World,w'.heap=w.heap→(Builtin.firstCells z m vx).run P w' = .ok X w') (OD:X.size=m*z) (hxl:xs.length=m*z) (F6:RL κ φ s.O w.heap X 0 xs)
 (hY:∀w' : World,w'.heap=w.heap→(Builtin.firstCells z len (.slice base len cap)).run P w' = .ok Y w') (hYs:Y.size=len*z) (hyl:ys.length=len*z) (QX:RL κ φ s.O w.heap Y 0 ys) :
 Out P κ φ w s a (.sl d z 0 (len+m) none) [(d,.bO e (ys++xs))] (Builtin.append_ #[t,t2] t #[.slice base len cap,vx]):=by
 obtain ⟨zv,hzv,hzs⟩:=Ai DT { w with drawn:=w.drawn+1 };obtain ⟨newCap,R,g1,g2,g3⟩:=run_append_grow (len:=len) (n:=m) (cap:=cap) (base:=base) hu hu2 hni hz hl (hX w rfl) hby hb1 hroom hfit hzv (hX { w with drawn:=w.drawn+1 } rfl) (hY { w with drawn:=w.drawn+1 } rfl)
 have hsize:(Y++X++R).size=newCap*z:=by
  simp only [Array.size_append,hYs,OD,g2,hzs];rw [←Nat.add_mul,←Nat.add_mul];congr 1;omega
 obtain ⟨q1,q2,q3⟩:=F.alloc (i:=d) (p:=.bO e (ys++xs)) (o:=.cells (Y++X++R) e (0,0)) (w':={ w with drawn:=w.drawn+1,heap:=w.heap.push (.cells (Y++X++R) e (0,0)) }) rfl hd
  (fun M=>⟨_,_,(0,0),aP _ _ _,bW _ _ _,aS _ _,Ea _ _,RL.mono M (RL.concat QX (by omega) F6 (by omega))⟩)
 refine ⟨_,_,_,iE φ d (.at w.heap.size),g3,q1,?_,q3,q2.kp⟩;have hle:=Nat.mul_le_mul_right z g1;refine .sl (aP _ _ _) (aS _ _) (.inl rfl) (by rw [hsize];omega) g1 (fun k e=>by cases e) (fun _ n hn=>?_)
 have:ay.dn (bA s.O d (some (.bO e (ys++xs))) d)=some n:=hn
 rw [bH] at this;simp [ay.dn] at this;rw [Nat.add_mul] at hle;omega
theorem Ce {κ:bB} {φ:bJ} {w:World} {s:bQ} {a:Act} (F:aC κ φ w s a) {d i e z t t2 len m b:Nat} {cs xs:List RV} {cap:Nat} {vx:Value} {X c:Array Value} {fz:Nat×Nat} {Ah:TypeDesc}
 (hd:s.O d=none) (hu:(Env.of P).und t=some (.slice e)) (hu2:(Env.of P).und t2=some Ah) (hni:∀k,Ah≠.int k) (hz:(Env.of P).size e=some z) (hfit:len+m≤cap)
 (hl:(Builtin.lenOf vx).run P w = .ok m w) (hX:(Builtin.firstCells z m vx).run P w = .ok X w) (OD:X.size=m*z) (hxl:xs.length=m*z) (F6:RL κ φ s.O w.heap X 0 xs)
 (Ei:s.O i=some .gone) (hκ:κ b = .own i) (hb:w.heap[b]? = some (.cells c e fz)) (hfz:Zh e fz c.size) (hcs:RL κ φ s.O w.heap c 0 cs) (hlen:len*z≤cs.length) (hcap:cap*z≤c.size) :
 Out P κ φ w s a (.sl d z 0 (len+m) none) [(d,.bO e (cs.take (len*z)++xs))] (Builtin.append_ #[t,t2] t #[.slice (some ⟨b,0,none⟩) len cap,vx]):=by
 have hun:φ d = .un:=by have:=F.objs d;rw [hd] at this;exact this
 have hle:=Nat.mul_le_mul_right z hfit;rw [Nat.add_mul] at hle
 have hone:∀v∈X,v.oneCell=true:=fun v hv=>by
  obtain ⟨j,hj⟩:=Array.mem_iff_getElem?.1 hv;have hlt:=(Array.getElem?_eq_some_iff.1 hj).1;have hlt2:j < xs.length:=by omega
  exact (F6.2 j _ v (List.getElem?_eq_getElem hlt2) (by simpa using hj)).2
 have hrun:=oJ (len:=len) (n:=m) (cap:=cap) (o:=0) hu hu2 hni hz hl hX hfit hb hfz.1 (by omega) hone;rw [Nat.zero_add] at hrun;have hsize:(fu c (len*z) X.toList).size=c.size:=dY _ _ _ (by simp;omega)
 obtain ⟨q1,q2,q3⟩:=F.wS (i:=d) (p:=.bO e (cs.take (len*z)++xs)) (κ':=qO κ b (.own d)) (φ':=iE φ d (.at b)) (w':=World.row w b (.cells (fu c (len*z) X.toList) e fz))
  (by simp [World.row]) (fun x hx=>by rw [fV _ _ (fun e=>by subst e;rw [hκ] at hx;cases hx)];exact hx)
  (fun x j hj hg hx=>by rw [fV _ _ (fun e=>by subst e;rw [hκ] at hx;injection hx with hx;subst hx;exact hg Ei)];exact hx)
  (fun x _ hx=>by rw [fV _ _ (fun e=>by subst e;rw [hκ] at hx;cases hx)];exact hx)
  (fun x hx _ hg=>iD _ _ (fun e=>by subst e;exact hg i hκ Ei))
  (fun j hj=>mh _ _ hj) (fun h=>absurd hun h)
  (fun x c0 RJ RN hc0=>by
    by_cases e:x=b
    ·subst e;rw [hb] at hc0;injection hc0 with hc0;injection hc0 with e1 e2 e3;subst e1;subst e2;exact ⟨_,_,dO hb,hsize⟩
    ·exact ⟨c0,RN,by rw [iD _ _ e];exact hc0,rfl⟩)
  (fun h=>absurd hun h)
  (fun x hx=>by
    simp only [World.row,Array.size_setIfInBounds];by_cases e:x=b
    ·subst e;exact jw hb
    ·rw [fV _ _ e] at hx;exact F.bnd.lt x hx)
  (fun M=>⟨b,_,fz,aP _ _ _,bW _ _ _,dO hb,by rw [hsize];exact hfz,RL.mono M (RL.over hcs hlen F6 (by omega) (by omega))⟩)
 refine ⟨_,_,_,iE φ d (.at b),hrun,q1,?_,q3,q2.kp⟩;refine .sl (aP _ _ _) (dO hb) (.inl rfl) (by rw [hsize];omega) hfit (fun k e=>by cases e) (fun _ n hn=>?_)
 have:ay.dn (bA s.O d (some (.bO e (cs.take (len*z)++xs))) d)=some n:=hn
 rw [bH] at this;simp [ay.dn] at this;omega
def roomFor (O:Tab) (i sz o len m:Nat) (cap:Option Nat) (n:Nat):Bool:=
 Nat.ble (o+(len+m)*sz) n&&match cap with
  | some k=>Nat.ble (len+m) k
  | none=>match O i with
    | some (.bO _ _)=>Nat.ble 1 sz
    | _=>false
def lq (E:Env) (O:Tab) (sl t:Nat) (s x:RV):Option cB:=
 match E.und t with
 | some (.slice e)=>match E.size e,E.bytes e with
   | some z,some iP=>match jH O z x with
     | some (m,xs)=>bif Nat.ble 1 iP&&mO E e z then
        match s with
        | .d (.aF 0 [] true)=>bif Nat.beq m 0 then some { val:=.d (.aF 0 [] true) } else match O sl with
          | none=>some { val:=.sl sl z 0 (0+m) none,upd:=[(sl,.bO e ([]++xs))],conds:=[decide ((0+m)*iP≤2 ^ 38)] }
          | some _=>none
        | .sl i sz o len cap=>bif Nat.beq m 0 then some { val:=.sl i sz o len cap } else match bR O i with
          | some cs=>bif Nat.beq sz z&&Nat.ble (o+len*sz) cs.length then
             bif roomFor O i sz o len m cap cs.length then some { val:=.sl i sz o (len+m) cap,upd:=[(i,wT O i (splice cs (o+len*sz) xs))] }
             else match cap with
              | some k=>match O sl with
                | none=>some { val:=.sl sl sz 0 (len+m) none,upd:=[(sl,.bO e ((cs.drop o).take (len*sz)++xs))],conds:=[decide ((len+m)*iP≤2 ^ 38),decide (k < len+m)] }
                | some _=>none
              | none=>match O i,O sl with
                | some (.bO ty _),none=>bif Nat.beq ty e&&Nat.beq o 0 && !(Nat.beq i sl) then
                   some { val:=.sl sl sz 0 (len+m) none,upd:=[(i,.gone),(sl,.bO e (cs.take (len*sz)++xs))],conds:=[decide ((len+m)*iP≤2 ^ 38)] }
                  else none
                | _,_=>none
            else none
          | none=>none
        | _=>none
       else none
     | none=>none
   | _,_=>none
 | _=>none
theorem F7 {κ:bB} {φ:bJ} {w:World} {s:bQ} {a:Act} (F:aC κ φ w s a) {sl t t2:Nat} {x y:RV} {v vx:Value} {Ah:TypeDesc} {res:cB}
 (hx:lq (Env.of P) s.O sl t x y=some res) (hc:∀b∈res.conds,b=true) (hu2:(Env.of P).und t2=some Ah) (hni:∀k,Ah≠.int k)
 (r:bE κ φ s.O w.heap x v) (r2:bE κ φ s.O w.heap y vx):Out P κ φ w s a res.val res.upd (Builtin.append_ #[t,t2] t #[v,vx]):=by
 unfold lq at hx;split at hx
 ·rename_i e hu;split at hx
  ·rename_i z iP hz hby
   split at hx
   ·rename_i m xs hsrc;obtain ⟨Xb,Lj,Xc⟩:=wC F hsrc r2;obtain ⟨X,hX,OD,F6⟩:=Xc m (Nat.le_refl _);rw [List.take_of_length_le (by omega)] at F6;cases hg:(Nat.ble 1 iP&&mO (Env.of P) e z) with
    | false=>rw [hg] at hx;simp at hx
    | true=>
      rw [hg] at hx;simp only [cond_true] at hx;simp only [Bool.and_eq_true] at hg;have g1:=Nat.le_of_ble_eq_true hg.1;have g2:=hg.2;split at hx
      ·
       have hv:v = .slice none 0 0:=by
        cases r with
        | d hr=>
        cases hr with
        | iX hf=>have:=hf rfl;rw [this.1,this.2 rfl]
        | aF _ _ hf _ _ _ _=>have:=(hf rfl).2;omega
       subst hv;cases hm:Nat.beq m 0 with
       | true=>
         have:=bV hm;subst this
         rw [hm] at hx;simp only [cond_true,Option.some.injEq] at hx;subst hx;have hX0:X = #[]:=Array.eq_empty_of_size_eq_zero (by omega);exact Out.pure F (kQ (len:=0) (n:=0) (cap:=0) (base:=none) hu hu2 hni hz (Lj w rfl) (hX w rfl) (Nat.le_refl _) (.inl rfl)) (.d (.iX (fun _=>⟨rfl,fun _=>rfl⟩)))
       | false=>
         rw [hm] at hx;simp only [cond_false] at hx;have hm0:m≠0:=fun e=>by rw [vZ e] at hm;cases hm
         split at hx
         ·rename_i hO;injection hx with hx;subst hx;exact nZ F (len:=0) (m:=m) (Y:=#[]) (ys:=[]) hO hu hu2 hni hz hby g2 g1 (by simpa using hc (decide ((0+m)*iP≤2 ^ 38)) (by simp)) (by omega) (Lj w rfl) hX OD Xb F6 (fun w' _=>rfl) (by simp) (by simp) RL.nil
         ·simp at hx
      ·
       rename_i i sz o len cap hxo;clear hxo;cases hm:Nat.beq m 0 with
       | true=>
         have:=bV hm;subst this
         rw [hm] at hx;simp only [cond_true,Option.some.injEq] at hx;subst hx;have hX0:X = #[]:=Array.eq_empty_of_size_eq_zero (by omega);have r':=r;cases r with
         | sl hφ hb ho hs hle hcc hnn=>exact Out.pure F (kQ hu hu2 hni hz (Lj w rfl) (hX w rfl) (by omega) (.inr ⟨rfl,hX0⟩)) r'
       | false=>
         rw [hm] at hx;simp only [cond_false] at hx;have hm0:m≠0:=fun e=>by rw [vZ e] at hm;cases hm
         split at hx
         ·rename_i cs hcs;cases hg3:(Nat.beq sz z&&Nat.ble (o+len*sz) cs.length) with
          | false=>rw [hg3] at hx;simp at hx
          | true=>
            rw [hg3] at hx;simp only [cond_true] at hx;simp only [Bool.and_eq_true] at hg3
            have:=bV hg3.1;subst this
            have g3:=Nat.le_of_ble_eq_true hg3.2;obtain ⟨b,o',fC,c,ty,fz,rfl,h1,h2,h3,h4,h5,h6,h7,h8,h9,h10⟩:=oQ F hcs r;have hcl:=h5.1
            have QX:∃Y,(∀w' : World,w'.heap=w.heap→(Builtin.firstCells sz len (.slice (some ⟨b,o',none⟩) len fC)).run P w' = .ok Y w')∧Y.size=len*sz∧RL κ φ s.O w.heap Y 0 ((cs.drop o).take (len*sz)):=by
             rcases h6 with rfl | h6
             ·obtain ⟨p1,p2,p3⟩:=h5.part (o:=o') (n:=len*sz) g3;exact ⟨_,fun w' hw=>by simp only [Builtin.firstCells];exact dX (by rw [hw];exact h3) (by omega),p2,p1⟩
             ·have:len=0:=by omega
              subst this;exact ⟨#[],fun w' _=>by simp only [Builtin.firstCells,Nat.zero_mul,loadCells,loadCellsFrom];rfl,by simp,by simpa using RL.nil⟩
            obtain ⟨Y,hY,hYs,QX⟩:=QX;have hyl:((cs.drop o).take (len*sz)).length=len*sz:=by simp;omega
            cases hr:roomFor s.O i sz o len m cap cs.length with
            | true=>
              rw [hr] at hx;simp only [cond_true,Option.some.injEq] at hx;subst hx;simp only [roomFor,Bool.and_eq_true] at hr;have r1:=Nat.le_of_ble_eq_true hr.1
              have hfit:len+m≤fC:=by
               cases cap with
               | some k=>rw [h9 k rfl];exact Nat.le_of_ble_eq_true hr.2
               | none=>
                 have hr2:=hr.2;simp only at hr2;split at hr2
                 ·rename_i ty' cs' hO;have e1:cs'=cs:=by simp [bR,hO] at hcs;exact hcs
                  subst e1;have h11:=h10 rfl cs'.length (by rw [hO];rfl);have hsz:=Nat.le_of_ble_eq_true hr2
                  have:(len+m)*sz≤fC*sz:=by omega
                  exact Nat.le_of_mul_le_mul_right this hsz
                 ·cases hr2
              rcases h6 with rfl | h6
              ·have RQ:(len+m)*sz=len*sz+m*sz:=Nat.add_mul _ _ _
               have hone:∀v∈X,v.oneCell=true:=fun v hv=>by
                obtain ⟨j,hj⟩:=Array.mem_iff_getElem?.1 hv;have hlt:=(Array.getElem?_eq_some_iff.1 hj).1;have hlt2:j < xs.length:=by omega
                exact (F6.2 j _ v (List.getElem?_eq_getElem hlt2) (by simpa using hj)).2
               obtain ⟨c',ty',uH,e1,e2,e3,e4,e5,e6⟩:=mo F hcs h1 (o:=o'+len*sz) (ys:=xs) (vs:=X.toList) (by omega) (by simp;omega) (fun j x' v' hx' hv'=>F6.2 j x' v' hx' (by simpa using hv')) (by simpa using hone);rw [h3] at e1;injection e1 with e1;injection e1 with q1 q2 q3;subst q1;subst q2;subst q3;have hrun:=oJ (len:=len) (n:=m) (cap:=fC) (o:=o') hu hu2 hni hz (Lj w rfl) (hX w rfl) hfit h3 h4 (by omega) hone;refine ⟨_,_,κ,φ,hrun,e4,?_,e6,e5.kp⟩;have r':=bE.mono e5 r;cases r' with
               | sl hφ hb ho hs hle hcc hnn=>exact .sl hφ hb ho hs hfit hcc hnn
              ·omega
            | false=>
              rw [hr] at hx;simp only [cond_false] at hx;split at hx
              ·rename_i k;split at hx
               ·rename_i hO;injection hx with hx;subst hx;have hk:k < len+m:=by simpa using hc (decide (k < len+m)) (by simp)
                have:=h9 k rfl
                exact nZ F (len:=len) (m:=m) hO hu hu2 hni hz hby g2 g1 (by simpa using hc (decide ((len+m)*iP≤2 ^ 38)) (by simp)) (by omega) (Lj w rfl) hX OD Xb F6 hY hYs hyl QX
               ·simp at hx
              ·split at hx
               ·rename_i ty' cs' hOi hO;have e1:cs'=cs:=by simp [bR,hOi] at hcs;exact hcs
                subst e1;cases hg4:(Nat.beq ty' e&&Nat.beq o 0 && !(Nat.beq i sl)) with
                | false=>rw [hg4] at hx;simp at hx
                | true=>
                  rw [hg4] at hx;simp only [cond_true,Option.some.injEq] at hx;subst hx;simp only [Bool.and_eq_true,Bool.not_eq_true'] at hg4;obtain ⟨⟨k1,k2⟩,k3⟩:=hg4
                  have:=bV k1;subst this
                  have:=bV k2;subst this
                  have hid:i≠sl:=fun e=>by rw [vZ e] at k3;cases k3
                  have hroom:(len+m)*iP≤2 ^ 38:=by simpa using hc (decide ((len+m)*iP≤2 ^ 38)) (by simp)
                  obtain ⟨F1,M1,R1⟩:=F.gone i (by rw [h1];simp);have hd1:bA s.O i (some .gone) sl=none:=by rw [dM _ _ (fun e=>hid e.symm)];exact hO
                  have hty:ty=ty'∧Zh ty' fz c.size:=by
                   have ho:=F.objs i;rw [hOi] at ho;obtain ⟨b2,c2,Q0,k1,k2,k3,k4,_⟩:=ho;rw [h1] at k1;injection k1 with k1;subst k1;rw [h3] at k3;injection k3 with k3;injection k3 with e1 e2 e3;subst e1;subst e3;exact ⟨e2,k4⟩
                  obtain ⟨hty,hfr⟩:=hty;subst hty
                  have fin:Out P κ φ w { s with O:=bA s.O i (some .gone) } a (.sl sl sz 0 (len+m) none) [(sl,.bO ty (cs'.take (len*sz)++xs))] (Builtin.append_ #[t,t2] t #[.slice (some ⟨b,o',none⟩) len fC,vx]):=by
                   by_cases hfit:len+m≤fC
                   ·have ho0:o'=0:=by rcases h6 with h6 | h6;exact h6;omega
                    subst ho0;exact Ce F1 hd1 hu hu2 hni hz hfit (Lj w rfl) (hX w rfl) OD Xb (RL.mono M1 F6) (bH _ _ _) h2 h3 hfr (RL.mono M1 h5) (by omega) (by omega)
                   ·have:=nZ F1 (len:=len) (m:=m) hd1 hu hu2 hni hz hby g2 g1 hroom hfit (Lj w rfl) hX OD Xb (RL.mono M1 F6) hY hYs hyl (RL.mono M1 QX)
                    simpa using this
                  obtain ⟨v',w',κ',φ',o1,o2,o3,o4⟩:=fin;exact ⟨v',w',κ',φ',o1,o2,o3,R1.trans o4.1,M1.kp.trans o4.2⟩
               ·simp at hx
         ·simp at hx
      ·simp at hx
   ·simp at hx
  ·simp at hx
 ·simp at hx
def tC:Nat→List RV→List RV
 | 0,_=>[]
 | n+1,l=>l++tC n l
theorem oV (l:List RV):∀n,(tC n l).length=n*l.length
 | 0=>by simp [tC]
 | n+1=>by simp only [tC,List.length_append,oV l n,Nat.add_mul];omega
theorem Ep (l:List RV):∀(n j:Nat) (x:RV),(tC n l)[j]? = some x→j < n*l.length∧l[j % l.length]? = some x
 | 0,j,x,h=>by simp [tC] at h
 | n+1,j,x,h=>by
   simp only [tC] at h;by_cases hj:j < l.length
   ·rw [List.getElem?_append_left hj] at h;refine ⟨by rw [Nat.add_mul];omega,by rw [Nat.mod_eq_of_lt hj];exact h⟩
   ·rw [List.getElem?_append_right (by omega)] at h;obtain ⟨h1,h2⟩:=Ep l n _ x h;refine ⟨by rw [Nat.add_mul];omega,?_⟩;rw [Nat.mod_eq_sub_mod (by omega)];exact h2
def ZF (x:RV):Bool:=match x with
 | .d y=>y.gI
 | _=>false
def ql (E:Env) (O:Tab) (t:Nat) (x y:RV):Option cB:=
 match E.und t with
 | some (.slice e)=>match E.size e with
   | some z=>match jH O z y with
     | some (m,ys)=>match x with
       | .d (.aF 0 [] true)=>some { val:=.d (.int .i64 0) }
       | .sl i sz o len _=>bif Nat.beq (Nat.min m len) 0 then some { val:=.d (.int .i64 0) } else match bR O i with
         | some cs=>bif Nat.beq sz z&&Nat.ble (o+Nat.min m len*sz) cs.length then
            some { val:=.d (.int .i64 ((Nat.min m len:Nat):Int)),upd:=[(i,wT O i (splice cs o (ys.take (Nat.min m len*z))))] } else none
         | none=>none
       | _=>none
     | none=>none
   | none=>none
 | _=>none
theorem Ll {κ:bB} {φ:bJ} {w:World} {s:bQ} {a:Act} (F:aC κ φ w s a) {t t2 ty:Nat} {x y:RV} {v vx:Value} {res:cB}
 (hx:ql (Env.of P) s.O t x y=some res) (r:bE κ φ s.O w.heap x v) (r2:bE κ φ s.O w.heap y vx):Out P κ φ w s a res.val res.upd (Builtin.copy_ #[t,t2] ty #[v,vx]):=by
 unfold ql at hx;split at hx
 ·rename_i e hu;split at hx
  ·rename_i z hz;split at hx
   ·rename_i m ys hsrc;obtain ⟨Xb,Lj,Xc⟩:=wC (P:=P) F hsrc r2;have q0:(#[t,t2]:Array TypeId)[0]? = some t:=rfl;have q1:∀u v:Value,(#[u,v]:Array Value)[0]? = some u:=fun _ _=>rfl;have q2:∀u v:Value,(#[u,v]:Array Value)[1]? = some v:=fun _ _=>rfl;split at hx
    ·injection hx with hx;subst hx
     have hv:v = .slice none 0 0:=by
      cases r with
      | d hr=>
      cases hr with
      | iX hf=>have:=hf rfl;rw [this.1,this.2 rfl]
      | aF _ _ hf _ _ _ _=>have:=(hf rfl).2;omega
     subst hv;obtain ⟨X,hX,_,_⟩:=Xc 0 (Nat.zero_le _);refine Out.pure F (v:=goInt 0) ?_ (.d (fA _))
     have:Nat.min m 0=0:=Nat.min_zero m
     simp only [Builtin.copy_,q0,q1,q2,Sem.run_bind,aK hu,Result.andThen_ok,Lj w rfl,this,aW hz,hX w rfl,Sem.run_pure];rfl
    ·rename_i i sz o len cap
     have hfin:∀b o' fC,Nat.min m len=0→(Builtin.copy_ #[t,t2] ty #[.slice (some ⟨b,o',none⟩) len fC,vx]).run P w = .ok (goInt 0) w:=by
      intro b o' fC h0;obtain ⟨X,hX,OD,_⟩:=Xc 0 (Nat.zero_le _)
      have:X = #[]:=Array.eq_empty_of_size_eq_zero (by omega)
      subst this;simp only [Builtin.copy_,q0,q1,q2,Sem.run_bind,aK hu,Result.andThen_ok,Lj w rfl,h0,aW hz,hX w rfl,Sem.run_pure,storeCells];rfl
     cases h0:Nat.beq (Nat.min m len) 0 with
     | true=>
       rw [h0] at hx;simp only [cond_true,Option.some.injEq] at hx;subst hx;cases r with
       | sl hφ hb ho hs hle hcc hnn=>exact Out.pure F (hfin _ _ _ (bV h0)) (.d (fA _))
     | false=>
       rw [h0] at hx;simp only [cond_false] at hx;have hne:Nat.min m len≠0:=fun e=>by rw [vZ e] at h0;cases h0
       have hml:Nat.min m len≤m:=Nat.min_le_left _ _;have hll:Nat.min m len≤len:=Nat.min_le_right _ _;generalize hk:Nat.min m len=k at *;split at hx
       ·rename_i cs hcs;cases hg:(Nat.beq sz z&&Nat.ble (o+k*sz) cs.length) with
        | false=>rw [hg] at hx;simp at hx
        | true=>
          rw [hg] at hx;simp only [cond_true,Option.some.injEq] at hx;subst hx;simp only [Bool.and_eq_true] at hg
          have:=bV hg.1;subst this
          have g3:=Nat.le_of_ble_eq_true hg.2;obtain ⟨X,hX,OD,F6⟩:=Xc k hml;obtain ⟨b,o',fC,c,cty,fz,rfl,h1,h2,h3,h4,h5,h6,h7,h8,h9,h10⟩:=oQ F hcs r;have ho:o'=o:=by rcases h6 with h6 | h6;exact h6;omega
          subst ho;have hkm:=Nat.mul_le_mul_right sz hml;have hyl:(ys.take (k*sz)).length=k*sz:=by simp;omega
          have hone:∀v∈X.toList,v.oneCell=true:=fun v hv=>by
           obtain ⟨j,hj⟩:=List.mem_iff_getElem?.1 hv;have hlt:=(List.getElem?_eq_some_iff.1 hj).1;have hlt2:j < (ys.take (k*sz)).length:=by simp at hlt;omega
           exact (F6.2 j _ v (List.getElem?_eq_getElem hlt2) (by simpa using hj)).2
          obtain ⟨c',ty',uH,e1,e2,e3,e4,e5,e6⟩:=mo F hcs h1 (o:=o') (ys:=ys.take (k*sz)) (vs:=X.toList) (by omega) (by simp;omega) (fun j x' v' hx' hv'=>F6.2 j x' v' hx' (by simpa using hv')) hone;have hst:=dG (P:=P) b o' ty' uH X.toList 0 c' w e1 e2 (by simpa using e3) hone;refine ⟨_,_,κ,φ,?_,e4,.d (fA _),e6,e5.kp⟩;simp only [Builtin.copy_,q0,q1,q2,Sem.run_bind,aK hu,Result.andThen_ok,Lj w rfl,hk,aW hz,hX w rfl,Sem.run_pure];rw [hst];simp
       ·simp at hx
    ·simp at hx
   ·simp at hx
  ·simp at hx
 ·simp at hx
def nI (E:Env) (O:Tab) (t:Nat) (x:RV):Option cB:=
 match E.und t with
 | some (.slice e)=>match x with
   | .d (.aF 0 [] true)=>some { val:=.d (.aZ []) }
   | .sl i sz o len _=>bif Nat.beq len 0 then some { val:=.d (.aZ []) } else match bR O i,E.zero e with
     | some cs,some z=>bif Nat.beq z.cells.length sz&&dU (.d z)&&Nat.ble (o+len*sz) cs.length then
        some { val:=.d (.aZ []),upd:=[(i,wT O i (splice cs o (tC len (z.cells.map .d))))] } else none
     | _,_=>none
   | _=>none
 | _=>none
theorem yA {κ:bB} {φ:bJ} {O:Tab} {h:Heap} {z:DV} {zv:Value} (r:DR κ h z zv) (hk:dU (.d z)=true) {B:Array Value} {n:Nat}
 (hB:∀k,k < n*zv.cells.size→B[k]? = zv.cells[k % zv.cells.size]?) (hs:n*zv.cells.size≤B.size):RL κ φ O h B 0 (tC n (z.cells.map .d)):=by
 obtain ⟨c1,c2,c3⟩:=jG (φ:=φ) (O:=O) (.d r) hk;simp only [RV.cells] at c1 c3;refine ⟨by rw [oV,←c1];omega,fun j x v hx hv=>?_⟩;obtain ⟨g1,g2⟩:=Ep _ n j x hx;rw [Nat.zero_add,hB j (by rw [c1];exact g1)] at hv;rw [c1] at hv;exact ⟨c3 _ x v g2 hv,c2 v (Array.mem_iff_getElem?.2 ⟨_,hv⟩)⟩
theorem Cg (c:Array Value) (n k:Nat) (h:k < n*c.size):(Builtin.zeroCells c n)[k]? = c[k % c.size]?:=by
 have hpos:0 < c.size:=by
  rcases Nat.eq_zero_or_pos c.size with e | e
  ·rw [e] at h;omega
  ·exact e
 have hlt:k % c.size < c.size:=Nat.mod_lt _ hpos;simp only [Builtin.zeroCells];have e1:((Array.range (n*c.size)).map (fun i=>c[i % c.size]!))[k]? = some (c[k % c.size]!):=by simp [h]
 rw [e1,getElem!_pos c (k % c.size) hlt,getElem?_pos c (k % c.size) hlt]
theorem JF {κ:bB} {φ:bJ} {w:World} {s:bQ} {a:Act} (F:aC κ φ w s a) {t ty:Nat} {x:RV} {v:Value} {res:cB}
 (hx:nI (Env.of P) s.O t x=some res) (r:bE κ φ s.O w.heap x v):Out P κ φ w s a res.val res.upd (Builtin.clear_ #[t] ty #[v]):=by
 have q0:(#[t]:Array TypeId)[0]? = some t:=rfl;have q1:∀u:Value,(#[u]:Array Value)[0]? = some u:=fun _=>rfl;have Xd:bE κ φ s.O w.heap (.d (.aZ [])) (.tuple #[]):=.d (.aZ rfl (by simp));unfold nI at hx;split at hx
 ·rename_i e hu;split at hx
  ·injection hx with hx;subst hx
   have hv:v = .slice none 0 0:=by
    cases r with
    | d hr=>
    cases hr with
    | iX hf=>have:=hf rfl;rw [this.1,this.2 rfl]
    | aF _ _ hf _ _ _ _=>have:=(hf rfl).2;omega
   subst hv;exact Out.pure F (by simp only [Builtin.clear_,q0,q1,Sem.run_bind,aK hu,Result.andThen_ok,Sem.run_pure]) Xd
  ·rename_i i sz o len cap;cases h0:Nat.beq len 0 with
   | true=>
     have:=bV h0;subst this
     rw [h0] at hx;simp only [cond_true,Option.some.injEq] at hx;subst hx;cases r with
     | sl hφ hb ho hs hle hcc hnn=>exact Out.pure F (by simp only [Builtin.clear_,q0,q1,Sem.run_bind,aK hu,Result.andThen_ok,Sem.run_pure]) Xd
   | false=>
     have hne:len≠0:=fun e=>by rw [vZ e] at h0;cases h0
     rw [h0] at hx;simp only [cond_false] at hx;split at hx
     ·rename_i cs z hcs DT;cases hg:(Nat.beq z.cells.length sz&&dU (.d z)&&Nat.ble (o+len*sz) cs.length) with
      | false=>rw [hg] at hx;simp at hx
      | true=>
        rw [hg] at hx;simp only [cond_true,Option.some.injEq] at hx;subst hx;simp only [Bool.and_eq_true] at hg;obtain ⟨⟨g1,g2⟩,g3⟩:=hg;have g1:=bV g1;have g3:=Nat.le_of_ble_eq_true g3;obtain ⟨zv,hzv,WX⟩:=fG DT w;have hzd:DR κ w.heap z zv:=iG WX;have hzs:zv.cells.size=sz:=by have:=hzd.cells.1;omega
        obtain ⟨b,o',fC,c,cty,fz,rfl,h1,h2,h3,h4,h5,h6,h7,h8,h9,h10⟩:=oQ F hcs r;have ho:o'=o:=by rcases h6 with h6 | h6;exact h6;omega
        subst ho;have hZs:(Builtin.zeroCells zv.cells len).size=len*sz:=by simp [Builtin.zeroCells,hzs]
        have hZ:=yA (κ:=κ) (φ:=φ) (O:=s.O) (B:=Builtin.zeroCells zv.cells len) (n:=len) hzd g2 (fun k hk=>Cg _ _ _ hk) (by rw [hZs,hzs];exact Nat.le_refl _);have hrl:(tC len (z.cells.map .d)).length=len*sz:=by rw [oV];simp [g1]
        have hone:∀v∈(Builtin.zeroCells zv.cells len).toList,v.oneCell=true:=fun v hv=>by
         obtain ⟨j,hj⟩:=List.mem_iff_getElem?.1 hv;have hlt:=(List.getElem?_eq_some_iff.1 hj).1;have hlt2:j < (tC len (z.cells.map .d)).length:=by simp only [Array.length_toList] at hlt;omega
         exact (hZ.2 j _ v (List.getElem?_eq_getElem hlt2) (by simpa using hj)).2
        obtain ⟨c',ty',uH,e1,e2,e3,e4,e5,e6⟩:=mo F hcs h1 (o:=o') (ys:=tC len (z.cells.map .d)) (vs:=(Builtin.zeroCells zv.cells len).toList) (by omega) (by simp only [Array.length_toList];omega)
         (fun j x' v' hx' hv'=>hZ.2 j x' v' hx' (by simpa using hv')) hone
        have hst:=dG (P:=P) b o' ty' uH (Builtin.zeroCells zv.cells len).toList 0 c' w e1 e2 (by simpa using e3) hone;refine ⟨.tuple #[],_,κ,φ,?_,e4,.d (.aZ (vs:=#[]) rfl (by simp)),e6,e5.kp⟩
        have hz' : ∀k,len=k+1→(Builtin.clear_ #[t] ty #[.slice (some ⟨b,o',none⟩) (k+1) fC]).run P w=((storeCells ⟨b,o',none⟩ (Builtin.zeroCells zv.cells (k+1)).toList 0).run P w).andThen fun _ w=>.ok (.tuple #[]) w:=by
         intro k _;simp only [Builtin.clear_,q0,q1,Sem.run_bind,aK hu,Result.andThen_ok,hzv,Sem.run_pure]
        obtain ⟨k,rfl⟩:∃k,len=k+1:=⟨len-1,by omega⟩;rw [hz' k rfl,hst];simp
     ·simp at hx
  ·simp at hx
 ·simp at hx
def kY (E:Env) (O:Tab) (sl t:Nat) (len cap:RV):Option cB:=
 match E.und t,len,cap with
 | some (.slice e),.d (.int _ n),.d (.int _ m)=>match O sl,E.size e,E.bytes e,E.zero e with
   | none,some z,some iP,some x=>bif Nat.ble 1 iP&&Nat.beq x.cells.length z&&dU (.d x) then
      some { val:=.sl sl z 0 n.toNat (some m.toNat),upd:=[(sl,.bO e (tC m.toNat (x.cells.map .d)))],conds:=[decide (0≤n∧n≤m),decide ((iP:Int)*m≤2 ^ 38)] } else none
   | _,_,_,_=>none
 | _,_,_=>none
theorem zJ {κ:bB} {φ:bJ} {w:World} {s:bQ} {a:Act} (F:aC κ φ w s a) {sl t:Nat} {x y:RV} {v u:Value} {res:cB}
 (hx:kY (Env.of P) s.O sl t x y=some res) (hc:∀b∈res.conds,b=true) (r:bE κ φ s.O w.heap x v) (r2:bE κ φ s.O w.heap y u) :
 Out P κ φ w s a res.val res.upd (Instr.makeSlice t v u):=by
 unfold kY at hx;split at hx
 ·rename_i e k n k' m hu;split at hx
  ·rename_i z iP q hO hz hby DT;cases hg:(Nat.ble 1 iP&&Nat.beq q.cells.length z&&dU (.d q)) with
   | false=>rw [hg] at hx;simp at hx
   | true=>
     rw [hg] at hx;simp only [cond_true,Option.some.injEq] at hx;subst hx;simp only [Bool.and_eq_true] at hg;obtain ⟨⟨g2,g3⟩,g4⟩:=hg;have g2:=Nat.le_of_ble_eq_true g2;have g3:=bV g3;have c1:0≤n∧n≤m:=by simpa using hc (decide (0≤n∧n≤m)) (by simp)
     have c2:(iP:Int)*m≤2 ^ 38:=of_decide_eq_true (hc (decide ((iP:Int)*m≤2 ^ 38)) (by simp));have p38:(2:Int) ^ 38=274877906944:=by decide
     have p62:(2:Int) ^ 62=4611686018427387904:=by decide
     have p48:(2:Int) ^ 48=281474976710656:=by decide
     have hm:m≤(iP:Int)*m:=by
      have:=Int.mul_le_mul_of_nonneg_right (show (1:Int)≤(iP:Int) by omega) (show 0≤m by omega)
      simpa using this
     cases r with
     | d hr=>
     cases r2 with
     | d hr2=>
     cases hr;cases hr2;obtain ⟨ti,hti,Eh⟩:=gW hby w;obtain ⟨zv,hzv,WX⟩:=fG DT w;have hzd:DR κ w.heap q zv:=iG WX;obtain ⟨zc1,zc2⟩:=hzd.cells;have hzs:zv.cells.size=z:=by omega
     have hB:((Array.range (m.toNat*z)).map (zv.cells[· % zv.cells.size]!)).size=m.toNat*z:=by simp
     have hrun:∃B:Array Value,B.size=m.toNat*z∧(∀k,k < m.toNat*z→B[k]? = zv.cells[k % z]?)∧(Instr.makeSlice t (.int k n) (.int k' m)).run P w = .ok (.slice (some ⟨w.heap.size,0,none⟩) n.toNat m.toNat) { w with heap:=w.heap.push (.cells B e (0,0)) }:=by
      have w1:IntKind.i64.wrap n=n:=wrap_small (by omega) (by omega);have w2:IntKind.i64.wrap m=m:=wrap_small (by omega) (by omega);have hlt:¬((iP:Int)*m > 2 ^ 48):=by omega
      have hcond:((decide (m < 0)||decide ((iP:Int)*m > 2 ^ 48))||decide (n < 0)||decide (n > m))=false:=by simp;omega
      by_cases h0:m.toNat*z=0
      ·refine ⟨(Array.range (m.toNat*z)).map ((#[]:Array Value)[· % (#[]:Array Value).size]!),by simp,fun k hk=>by omega,?_⟩;simp only [Instr.makeSlice,Sem.run_bind,aK hu,Result.andThen_ok,asInt,asIntOf,Sem.run_pure,hti,Eh,w1,w2];rw [if_neg (by simpa using hcond)];simp only [Sem.run_bind,Result.andThen_ok,run_askRoom,aW hz];rw [if_pos h0];simp [newRow]
      ·refine ⟨(Array.range (m.toNat*z)).map (zv.cells[· % zv.cells.size]!),hB,fun k hk=>?_,?_⟩
       ·have hz0:0 < z:=by
         rcases Nat.eq_zero_or_pos z with e | e
         ·rw [e] at h0;omega
         ·exact e
        have hlt:k % z < zv.cells.size:=by rw [hzs];exact Nat.mod_lt _ hz0
        have e1:((Array.range (m.toNat*z)).map (zv.cells[· % zv.cells.size]!))[k]? = some (zv.cells[k % z]!):=by simp [hk,hzs]
        rw [e1,getElem!_pos zv.cells (k % z) hlt,getElem?_pos zv.cells (k % z) hlt]
       ·simp only [Instr.makeSlice,Sem.run_bind,aK hu,Result.andThen_ok,asInt,asIntOf,Sem.run_pure,hti,Eh,w1,w2];rw [if_neg (by simpa using hcond)];simp only [Sem.run_bind,Result.andThen_ok,run_askRoom,aW hz];rw [if_neg h0];simp [newRow,hzv]
     obtain ⟨B,hB1,hB2,hrun⟩:=hrun;have hnm:n.toNat≤m.toNat:=by omega
     have hle:=Nat.mul_le_mul_right z hnm
     obtain ⟨q1,q2,q3⟩:=F.alloc (i:=sl) (p:=.bO e (tC m.toNat (q.cells.map .d))) (o:=.cells B e (0,0)) (w':={ w with heap:=w.heap.push (.cells B e (0,0)) }) rfl hO
      (fun M=>⟨_,_,_,aP _ _ _,bW _ _ _,aS _ _,Ea _ _,RL.mono M (yA hzd g4 (fun k hk=>by rw [hzs] at hk ⊢;exact hB2 k hk) (by rw [hzs,hB1];exact Nat.le_refl _))⟩)
     refine ⟨_,_,_,iE φ sl (.at w.heap.size),hrun,q1,?_,q3,q2.kp⟩;exact .sl (aP _ _ _) (aS _ _) (.inl rfl) (by rw [hB1];omega) hnm (fun k e=>by injection e) (fun e=>by cases e)
  ·simp at hx
 ·simp at hx
def qm (E:Env) (O:Tab) (sl src dst:Nat) (x:RV):Option cB:=
 match E.und src,E.und dst,x with
 | some _,some (.slice e),.d (.str s)=>bif qN (E.und e)&&Gl.mark e then
    match O sl,E.size e with
    | none,some 1=>some { val:=.sl sl 1 0 s.length none,upd:=[(sl,.bO e (JC s))] }
    | _,_=>none
   else none
 | some (.slice e),some .string,.sl i sz o len _=>bif qN (E.und e)&&Nat.beq sz 1 then
    match bR O i with
    | some cs=>bif Nat.ble (o+len) cs.length then match DX ((cs.drop o).take len) with
      | some els=>bif els.all DV.isByte then some { val:=.d (.str (els.map DV.byte)) } else none
      | none=>none
      else bif Nat.beq len 0 then some { val:=.d (.str []) } else none
    | none=>none
   else none
 | some (.slice e),some .string,.d (.aF 0 [] true)=>bif qN (E.und e) then some { val:=.d (.str []) } else none
 | _,_,_=>none
theorem Ch {d:Option TypeDesc} (h:qN d=true):d=some (.int .u8):=by
 unfold qN at h;split at h
 ·rfl
 ·simp at h
theorem Lm {κ:bB} {φ:bJ} {w:World} {s:bQ} {a:Act} (F:aC κ φ w s a) {sl src dst:Nat} {x:RV} {v:Value} {res:cB}
 (hx:qm (Env.of P) s.O sl src dst x=some res) (r:bE κ φ s.O w.heap x v):Out P κ φ w s a res.val res.upd (convert src dst v):=by
 unfold qm at hx;split at hx
 ·rename_i ds e str hs hd;cases Pe:(qN ((Env.of P).und e)&&Gl.mark e) with
  | false=>rw [Pe] at hx;simp at hx
  | true=>
    rw [Pe] at hx;simp only [cond_true] at hx;simp only [Bool.and_eq_true] at Pe;obtain ⟨Jy,hmk⟩:=Pe;have hue:=Ch Jy;split at hx
    ·rename_i hO hz;injection hx with hx;subst hx;cases r with
     | d hr=>
     cases hr;have hsz:(⟨str.toArray⟩:ByteArray).size=str.length:=by simp [ByteArray.size]
     generalize hcap:str.length+w.tape w.drawn (.appendCap str.length 0 e) % (2 ^ 63-str.length)=cap;have hcl:str.length≤cap:=by omega
     have hC:(str.toArray.map (fun b=>Value.int .u8 b.toNat)++Array.replicate (cap-str.length) (Value.int .u8 0)).size=cap:=by simp;omega
     generalize WW:str.toArray.map (fun b=>Value.int .u8 b.toNat)++Array.replicate (cap-str.length) (Value.int .u8 0)=C at hC
     have hrun:(convert src dst (.string ⟨str.toArray⟩)).run P w = .ok (.slice (some ⟨w.heap.size,0,none⟩) str.length cap) { w with drawn:=w.drawn+1,heap:=w.heap.push (.cells C e (cap,cap+1)) }:=by
      simp only [convert,Sem.run_bind,aK hs,aK hd,aK hue,Result.andThen_ok,Conv.stringToBytes,hsz,run_choose,Question.forced,Question.cut,Bool.false_eq_true,if_false,hcap,WW,
       newRow,run_newObj,Sem.run_pure,markStringish,run_shape,World.shape?,aS,hC,run_freeze,World.freeze]
      rw [if_neg (by omega)];congr 2;apply Array.ext_getElem?;intro j;rw [Array.getElem?_modify];by_cases e:w.heap.size=j
      ·subst e;simp
      ·rw [if_neg e];rcases Nat.lt_or_ge j w.heap.size with h | h
       ·rw [dP h,dP h]
       ·rw [Array.getElem?_eq_none (by simp;omega),Array.getElem?_eq_none (by simp;omega)]
     have ZG:(JC str).length=str.length:=by simp [JC]
     obtain ⟨q1,q2,q3⟩:=F.alloc (i:=sl) (p:=.bO e (JC str)) (o:=.cells C e (cap,cap+1)) (w':={ w with drawn:=w.drawn+1,heap:=w.heap.push (.cells C e (cap,cap+1)) }) rfl hO
      (fun M=>⟨_,_,_,aP _ _ _,bW _ _ _,aS _ _,⟨fun o ho h=>by rw [hC] at ho;omega,fun e=>by rw [hmk] at e;cases e⟩,by rw [hC,ZG];omega,fun j x v hx hv=>by
        obtain ⟨b,hb,rfl⟩:=Iu str j x hx;have hlt:=(List.getElem?_eq_some_iff.1 hb).1;rw [←WW,Nat.zero_add,Array.getElem?_append_left (by simp;omega)] at hv;simp [hb] at hv;subst hv;exact ⟨.d (.int _ _),rfl⟩⟩)
     refine ⟨_,_,_,iE φ sl (.at w.heap.size),hrun,q1,?_,q3,q2.kp⟩
     exact .sl (aP _ _ _) (aS _ _) (.inl rfl) (by rw [hC];omega) hcl (fun k e=>by cases e) (fun _ n hn=>by
      have:ay.dn (bA s.O sl (some (.bO e (JC str))) sl)=some n:=hn
      rw [bH] at this;simp [ay.dn,JC] at this;omega)
    ·simp at hx
 ·rename_i e i sz o len cap hs hd;cases hg:(qN ((Env.of P).und e)&&Nat.beq sz 1) with
  | false=>rw [hg] at hx;simp at hx
  | true=>
    rw [hg] at hx;simp only [cond_true] at hx;simp only [Bool.and_eq_true] at hg;have hue:=Ch hg.1
    have:=bV hg.2;subst this
    split at hx
    ·rename_i cs hcs;obtain ⟨b,o',fC,c,cty,fz,rfl,h1,h2,h3,h4,h5,h6,h7,h8,h9,h10⟩:=oQ F hcs r
     have Ip:(convert src dst (.slice (some ⟨b,o',none⟩) len fC)).run P w=(Conv.bytesToString (.slice (some ⟨b,o',none⟩) len fC)).run P w:=by
      simp only [convert,Sem.run_bind,aK hs,aK hd,aK hue,Result.andThen_ok]
     have hzero:len=0→Out P κ φ w s a (.d (.str [])) [] (convert src dst (.slice (some ⟨b,o',none⟩) len fC)):=by
      intro h0;subst h0;refine Out.pure F (v:=.string ⟨([]:List UInt8).toArray⟩) ?_ (.d (.str _));rw [Ip];simp [Conv.bytesToString,loadCells,loadCellsFrom];rfl
     cases hb:Nat.ble (o+len) cs.length with
     | false=>
       rw [hb] at hx;simp only [cond_false] at hx;cases h0:Nat.beq len 0 with
       | false=>rw [h0] at hx;simp at hx
       | true=>rw [h0] at hx;simp only [cond_true,Option.some.injEq] at hx;subst hx;exact hzero (bV h0)
     | true=>
       rw [hb] at hx;simp only [cond_true] at hx;have hb:=Nat.le_of_ble_eq_true hb;split at hx
       ·rename_i els hall;cases hby:els.all DV.isByte with
        | false=>rw [hby] at hx;simp at hx
        | true=>
          rw [hby] at hx;simp only [cond_true,Option.some.injEq] at hx;subst hx;have hel:=Ac _ _ hall;have hcl:=h5.1;have hlen:((cs.drop o).take len).length=len:=by simp;omega
          have hell:els.length=len:=by rw [hel] at hlen;simpa using hlen
          by_cases h0:len=0
          ·have:els=[]:=List.eq_nil_of_length_eq_zero (by omega)
           subst this;exact hzero h0
          ·have ho:o'=o:=by rcases h6 with h6 | h6;exact h6;omega
           subst ho;refine Out.pure F (v:=.string ⟨(els.map DV.byte).toArray⟩) ?_ (.d (.str _));rw [Ip];obtain ⟨p1,p2,p3⟩:=h5.part (o:=o') (n:=len) hb;simp only [Conv.bytesToString,Sem.run_bind,dX h3 (show o'+len≤c.size by omega),Result.andThen_ok];rw [←Array.forIn_toList];have hll:(c.extract o' (o'+len)).toList.length=els.length:=by rw [Array.length_toList,p2,hell]
           rw [rV (P:=P) _ (fun _ _=>rfl) (c.extract o' (o'+len)).toList els ByteArray.empty w hll (fun i x v hx hv=>by
            obtain ⟨n,rfl⟩:=byte_of (List.all_eq_true.1 hby x (List.mem_iff_getElem?.2 ⟨i,hx⟩));have hrx:((cs.drop o').take len)[i]? = some (.d (.int .u8 n)):=by rw [hel];simp [hx]
            have:=(p1.2 i _ v hrx (by rw [Array.getElem?_toList] at hv;rw [Nat.zero_add];exact hv)).1
            cases this with
            | d hr=>cases hr;exact ⟨n,rfl,rfl⟩)]
           simp only [Result.andThen_ok,Sem.run_pure];congr 3;simp
       ·simp at hx
    ·simp at hx
 ·rename_i e hs hd;cases hg:qN ((Env.of P).und e) with
  | false=>rw [hg] at hx;simp at hx
  | true=>
    rw [hg] at hx;simp only [cond_true,Option.some.injEq] at hx;subst hx;have hue:=Ch hg
    have hv:v = .slice none 0 0:=by
     cases r with
     | d hr=>
     cases hr with
     | iX hf=>have:=hf rfl;rw [this.1,this.2 rfl]
     | aF _ _ hf _ _ _ _=>have:=(hf rfl).2;omega
    subst hv;refine Out.pure F (v:=.string ⟨([]:List UInt8).toArray⟩) ?_ (.d (.str _));simp only [convert,Sem.run_bind,aK hs,aK hd,aK hue,Result.andThen_ok,Conv.bytesToString,Sem.run_pure];rfl
 ·simp at hx
theorem Ci {κ:bB} {φ:bJ} {w:World} {s:bQ} {a:Act} (F:aC κ φ w s a) {fn:Fn} {fs cs:List RV} {f c:Array Value} (hl1:f.size=fs.length) (hl2:c.size=cs.length)
 (h1:∀(i:Nat) (x:RV) (v:Value),fs[i]? = some x→f[i]? = some v→bE κ φ s.O w.heap x v) (h2:∀(i:Nat) (x:RV) (v:Value),cs[i]? = some x→c[i]? = some v→bE κ φ s.O w.heap x v) :
 Out P κ φ w s a (.gG fn fs cs) [] (Instr.makeFunc fn f c):=
 ⟨.func fn f c,w,κ,φ,rfl,F,.gG hl1 hl2 h1 h2,Fr.refl _ _,Kp.refl _ _⟩
end Go.Am
namespace Go.Am
set_option linter.unusedSectionVars false
variable [Gl]
def wD {α:Type} (f:α→α→Bool):List α→List α→Bool
 | [],[]=>true
 | x::l,y::r=>match f x y with
   | true=>wD f l r
   | false=>false
 | _,_=>false
theorem gK {α:Type} {f:α→α→Bool} (hf:∀x y,f x y=true→x=y):∀(l r:List α),wD f l r=true→l=r
 | [],[],_=>rfl
 | [],_::_,h=>by simp [wD] at h
 | _::_,[],h=>by simp [wD] at h
 | x::l,y::r,h=>by
   simp only [wD] at h;split at h
   ·rename_i e;rw [hf x y e,gK hf l r h]
   ·cases h
def yB:Bool→Bool→Bool
 | true,true=>true
 | false,false=>true
 | _,_=>false
theorem wE {a b:Bool} (h:yB a b=true):a=b:=by cases a<;>cases b<;>first | rfl | (simp [yB] at h)
def Lp:Int→Int→Bool
 | .ofNat a,.ofNat b=>Nat.beq a b
 | .negSucc a,.negSucc b=>Nat.beq a b
 | _,_=>false
theorem F8 {a b:Int} (h:Lp a b=true):a=b:=by
 cases a<;>cases b<;>simp only [Lp] at h
 ·rw [bV h]
 ·cases h
 ·cases h
 ·rw [bV h]
def F9 (a b:UInt8):Bool:=Nat.beq a.toNat b.toNat
theorem wF (a b:UInt8) (h:F9 a b=true):a=b:=UInt8.toNat_inj.1 (bV h)
def uV:Nat→DV→DV→Bool
 | 0,_,_=>false
 | n+1,x,y=>match x,y with
   | .bool a,.bool b=>yB a b
   | .int k a,.int k' b=>bif lD k k' then Lp a b else false
   | .str a,.str b=>wD F9 a b
   | .agg a,.agg b=>wD (uV n) a b
   | .aZ a,.aZ b=>wD (uV n) a b
   | .aF s a f,.aF s' b f'=>bif Nat.beq s s'&&yB f f' then wD (uV n) a b else false
   | .aG,.aG=>true
   | .ak,.ak=>true
   | .BH,.BH=>true
   | .xL,.xL=>true
   | .iface t a,.iface t' b=>bif Nat.beq t t' then uV n a b else false
   | _,_=>false
theorem lu:∀(n:Nat) (x y:DV),uV n x y=true→x=y:=by
 intro n;induction n with
 | zero=>intro x y h;simp [uV] at h
 | succ n ih=>
   intro x y h;have hl:=gK ih;cases x<;>cases y<;>simp only [uV] at h<;>first | rfl | (cases h;done) | skip
   ·rw [wE h]
   ·rename_i k a k' b;cases hk:lD k k' with
    | false=>rw [hk] at h;cases h
    | true=>rw [hk] at h;rw [qd hk,F8 h]
   ·rw [gK wF _ _ h]
   ·rw [hl _ _ h]
   ·rw [hl _ _ h]
   ·rename_i s a f s' b f';cases hk:(Nat.beq s s'&&yB f f') with
    | false=>rw [hk] at h;cases h
    | true=>
      rw [hk] at h;simp only [Bool.and_eq_true] at hk;rw [bV hk.1,wE hk.2,hl _ _ h]
   ·rename_i t a t' b;cases hk:Nat.beq t t' with
    | false=>rw [hk] at h;cases h
    | true=>rw [hk] at h;rw [bV hk,ih _ _ h]
def eqFn:Fn→Fn→Bool
 | .func a,.func b=>Nat.beq a b
 | _,_=>false
theorem JG {a b:Fn} (h:eqFn a b=true):a=b:=by
 cases a<;>cases b<;>simp only [eqFn] at h<;>first | (rw [bV h]) | (cases h)
def RZ:Option Nat→Option Nat→Bool
 | none,none=>true
 | some a,some b=>Nat.beq a b
 | _,_=>false
theorem JH {a b:Option Nat} (h:RZ a b=true):a=b:=by
 cases a<;>cases b<;>simp only [RZ] at h<;>first | rfl | (cases h;done) | (rw [bV h])
def uW:Nat→RV→RV→Bool
 | 0,_,_=>false
 | n+1,x,y=>match x,y with
   | .bot,.bot=>true
   | .und,.und=>true
   | .d a,.d b=>uV 12 a b
   | .ptr i o,.ptr j p=>Nat.beq i j&&Nat.beq o p
   | .gQ i s k o,.gQ j s' k' p=>Nat.beq i j&&Nat.beq s s'&&Nat.beq k k'&&Nat.beq o p
   | .aN a o,.aN b p=>Nat.beq o p&&uV 12 a b
   | .own i s,.own j s'=>Nat.beq i j&&Nat.beq s s'
   | .sub i s o l,.sub j s' p l'=>Nat.beq i j&&Nat.beq s s'&&Nat.beq o p&&Nat.beq l l'
   | .sl i s o l c,.sl j s' p l' c'=>Nat.beq i j&&Nat.beq s s'&&Nat.beq o p&&Nat.beq l l'&&RZ c c'
   | .map i,.map j=>Nat.beq i j
   | .gG f a b,.gG f' a' b'=>eqFn f f'&&wD (uW n) a a'&&wD (uW n) b b'
   | .agg a,.agg b=>wD (uW n) a b
   | .aZ a,.aZ b=>wD (uW n) a b
   | _,_=>false
theorem qo:∀(n:Nat) (x y:RV),uW n x y=true→x=y:=by
 intro n;induction n with
 | zero=>intro x y h;simp [uW] at h
 | succ n ih=>
   intro x y h;have hl:=gK ih;cases x<;>cases y<;>simp only [uW,Bool.and_eq_true] at h<;>first | rfl | (cases h;done) | skip
   ·rw [lu _ _ _ h]
   ·rw [bV h.1,bV h.2]
   ·rw [bV h.1.1.1,bV h.1.1.2,bV h.1.2,bV h.2]
   ·rw [bV h.1,lu _ _ _ h.2]
   ·rw [bV h.1,bV h.2]
   ·rw [bV h.1.1.1,bV h.1.1.2,bV h.1.2,bV h.2]
   ·rw [bV h.1.1.1.1,bV h.1.1.1.2,bV h.1.1.2,bV h.1.2,JH h.2]
   ·rw [bV h]
   ·rw [JG h.1.1,hl _ _ h.1.2,hl _ _ h.2]
   ·rw [hl _ _ h]
   ·rw [hl _ _ h]
def Lr (a b:DV×DV):Bool:=uV 12 a.1 b.1&&uV 12 a.2 b.2
theorem Ga (a b:DV×DV) (h:Lr a b=true):a=b:=by
 simp only [Lr,Bool.and_eq_true] at h;exact Prod.ext (lu _ _ _ h.1) (lu _ _ _ h.2)
def Gb:ay→ay→Bool
 | .box t a,.box t' b=>Nat.beq t t'&&wD (uW 8) a b
 | .bO t a,.bO t' b=>Nat.beq t t'&&wD (uW 8) a b
 | .arr t s a,.arr t' s' b=>Nat.beq t t'&&Nat.beq s s'&&wD (uV 12) a b
 | .jP s a,.jP s' b=>Nat.beq s s'&&wD (uV 12) a b
 | .gone,.gone=>true
 | .WJ a,.WJ b=>wD F9 a b
 | .map a,.map b=>wD Lr a b
 | _,_=>false
theorem uX (a b:ay) (h:Gb a b=true):a=b:=by
 cases a<;>cases b<;>simp only [Gb,Bool.and_eq_true] at h<;>first | rfl | (cases h;done) | skip
 ·rw [bV h.1,gK (qo 8) _ _ h.2]
 ·rw [bV h.1.1,bV h.1.2,gK (lu 12) _ _ h.2]
 ·rw [bV h.1,gK (lu 12) _ _ h.2]
 ·rw [gK wF _ _ h]
 ·rw [gK Ga _ _ h]
 ·rw [bV h.1,gK (qo 8) _ _ h.2]
def Ar (o:Option ay) (p:ay):Bool:=match o with
 | some q=>Gb q p
 | none=>false
def nJ (O:Tab) (u:List (Nat×ay)):List (Nat×ay):=u.filter fun p=>!(Ar (O p.1) p.2)
theorem nK:∀(u:List (Nat×ay)) (O:Tab) (i:Nat),nodupB (u.map (·.1))=true→(∃p,(i,p)∈u∧aV O u i=some p)∨((∀p,(i,p)∉u)∧aV O u i=O i)
 | [],O,i,_=>.inr ⟨by simp,rfl⟩
 | (j,q)::u,O,i,h=>by
   simp only [List.map_cons,nodupB,Bool.and_eq_true,Bool.not_eq_true'] at h;have hstep:aV O ((j,q)::u) i=aV (bA O j (some q)) u i:=rfl;rcases nK u (bA O j (some q)) i h.2 with ⟨p,h1,h2⟩ | ⟨h1,h2⟩
   ·exact .inl ⟨p,by simp [h1],by rw [hstep,h2]⟩
   ·by_cases e:i=j
    ·subst e;exact .inl ⟨q,by simp,by rw [hstep,h2,bH]⟩
    ·refine .inr ⟨fun p hp=>?_,by rw [hstep,h2,dM _ _ e]⟩;rcases List.mem_cons.1 hp with hp | hp
     ·injection hp with e1 e2;exact e e1
     ·exact h1 p hp
theorem rA {u:List (Nat×ay)} {f:Nat×ay→Bool}:nodupB (u.map (·.1))=true→nodupB ((u.filter f).map (·.1))=true:=by
 induction u with
 | nil=>intro h;exact h
 | cons a u ih=>
   intro h;simp only [List.map_cons,nodupB,Bool.and_eq_true,Bool.not_eq_true'] at h;rw [List.filter_cons];split
   ·simp only [List.map_cons,nodupB,Bool.and_eq_true,Bool.not_eq_true'];refine ⟨?_,ih h.2⟩;rw [List.any_eq_false] at h ⊢;intro x hx;refine h.1 x ?_;simp only [List.mem_map,List.mem_filter] at hx ⊢;obtain ⟨y,⟨hy,_⟩,rfl⟩:=hx;exact ⟨y,hy,rfl⟩
   ·exact ih h.2
theorem zK {O:Tab} {u:List (Nat×ay)} (h:nodupB (u.map (·.1))=true):aV O (nJ O u)=aV O u:=by
 funext i
 have Xe:∀p q,(i,p)∈u→(i,q)∈u→p=q:=by
  intro p q hp hq;rcases nK u O i h with ⟨r,h1,h2⟩ | ⟨h1,_⟩
  ·have key:∀(u:List (Nat×ay)),nodupB (u.map (·.1))=true→∀p q,(i,p)∈u→(i,q)∈u→p=q:=by
    intro u;induction u with
    | nil=>intro _ p q hp;simp at hp
    | cons a u ih=>
      intro hn p q hp hq;simp only [List.map_cons,nodupB,Bool.and_eq_true,Bool.not_eq_true'] at hn
      have hne:∀r,a.1=i→(i,r)∉u:=fun r e hr=>by
       have:=List.any_eq_false.1 hn.1 i (List.mem_map.2 ⟨(i,r),hr,rfl⟩)
       rw [e,vZ rfl] at this;simp at this
      rcases List.mem_cons.1 hp with e1 | hp2
      ·rcases List.mem_cons.1 hq with e2 | hq2
       ·rw [←e1] at e2;injection e2 with _ e;exact e.symm
       ·exact absurd hq2 (hne q (by rw [←e1]))
      ·rcases List.mem_cons.1 hq with e2 | hq2
       ·exact absurd hp2 (hne p (by rw [←e2]))
       ·exact ih hn.2 p q hp2 hq2
   exact key u h p q hp hq
  ·exact absurd hp (h1 p)
 rcases nK u O i h with ⟨p,h1,h2⟩ | ⟨h1,h2⟩
 ·rw [h2];rcases nK (nJ O u) O i (rA h) with ⟨q,g1,g2⟩ | ⟨g1,g2⟩
  ·rw [g2,Xe p q h1 ((List.mem_filter.1 g1).1)]
  ·rw [g2]
   have hs:Ar (O i) p=true:=by
    cases e:Ar (O i) p with
    | true=>rfl
    | false=>exact absurd (List.mem_filter.2 ⟨h1,by simp [e]⟩) (g1 p)
   unfold Ar at hs;split at hs
   ·rename_i q hq;rw [hq,uX _ _ hs]
   ·cases hs
 ·rw [h2];rcases nK (nJ O u) O i (rA h) with ⟨q,g1,g2⟩ | ⟨g1,g2⟩
  ·exact absurd ((List.mem_filter.1 g1).1) (h1 q)
  ·exact g2
end Go.Am
namespace Go.Am
set_option linter.unusedSectionVars false
variable {P:Program} [Gl]
def Q5 (c:UInt8) (s:List UInt8) (pos:Nat):Int:=bif Nat.ble c.toNat 127 then c.toNat else ((Utf8.decode ⟨s.toArray⟩ pos).1:Nat)
def Gc (c:UInt8) (s:List UInt8) (pos:Nat):Nat:=bif Nat.ble c.toNat 127 then 1 else (Utf8.decode ⟨s.toArray⟩ pos).2
theorem R3 {c:UInt8} {s r:List UInt8} {pos:Nat} (h:c::r=s.drop pos):pos < s.length∧((Utf8.decode ⟨s.toArray⟩ pos).1:Int)=Q5 c s pos∧(Utf8.decode ⟨s.toArray⟩ pos).2=Gc c s pos:=by
 have hlt:pos < s.length:=by
  rcases Nat.lt_or_ge pos s.length with h1 | h1
  ·exact h1
  ·rw [List.drop_eq_nil_of_le h1] at h;cases h
 refine ⟨hlt,?_⟩;have hsz:(ByteArray.mk s.toArray).size=s.length:=by simp [ByteArray.size]
 have hlt2:pos < (ByteArray.mk s.toArray).size:=by rw [hsz];exact hlt
 have hc:s[pos]=c:=by
  have:=congrArg List.head? h
  rw [List.head?_drop] at this;simp only [List.head?_cons] at this;rw [List.getElem?_eq_getElem hlt] at this;injection this with this;exact this.symm
 have hce:(ByteArray.mk s.toArray)[pos]'hlt2=c:=by rw [←hc];rfl
 unfold Q5 Gc;cases hb:Nat.ble c.toNat 127 with
 | false=>exact ⟨rfl,rfl⟩
 | true=>
   have hd:=decode_ascii ⟨s.toArray⟩ pos hlt2 (by rw [hce];have:=Nat.le_of_ble_eq_true hb;omega);rw [hce] at hd;rw [hd];exact ⟨rfl,rfl⟩
def xB (E:Env) (O:Tab) (sl t:Nat) (x:RV):Option cB:=
 match O sl,E.und t,x with
 | none,some .string,.d (.str s)=>some { val:=.ptr sl 0,upd:=[(sl,.sit s 0 s)] }
 | none,some (.map _ _),.map i=>match O i with
   | some (.map [])=>some { val:=.ptr sl 0,upd:=[(sl,.OC i)] }
   | _=>none
 | _,_,_=>none
def Cj (O:Tab) (x:RV) (str:Bool):Option cB:=
 match x with
 | .ptr j 0=>match O j,str with
   | some (.sit s pos rest),true=>match rest with
     | []=>some { val:=.d (.aZ [.bool false]) }
     | c::r=>some { val:=.d (.aZ [.bool true,.int .i64 pos,.int .i32 (Q5 c s pos)]),upd:=[(j,.sit s (pos+Gc c s pos) ((c::r).drop (Gc c s pos)))] }
   | some (.OC i),false=>match O i with
     | some (.map [])=>some { val:=.d (.aZ [.bool false]) }
     | _=>none
   | _,_=>none
 | _=>none
theorem Xf {κ:bB} {h:Heap} (b:Bool):DR κ h (.aZ [.bool b]) (.tuple #[.bool b]):=by
 refine .aZ rfl (fun i x v hx hv=>?_);cases i with
 | zero=>simp at hx hv;subst hx;subst hv;exact .bool _
 | succ i=>simp at hx
theorem Ls {κ:bB} {φ:bJ} {w:World} {s:bQ} {a:Act} (F:aC κ φ w s a) {sl t:Nat} {x:RV} {v:Value} {res:cB}
 (hx:xB (Env.of P) s.O sl t x=some res) (r:bE κ φ s.O w.heap x v):Out P κ φ w s a res.val res.upd (Instr.range t v):=by
 unfold xB at hx;split at hx
 ·rename_i st hO hu;injection hx with hx;subst hx;cases r with
  | d hd=>
  cases hd
  obtain ⟨q1,q2,q3⟩:=F.alloc (i:=sl) (p:=.sit st 0 st) (o:=.stringIter ⟨st.toArray⟩ 0) (w':={ w with heap:=w.heap.push (.stringIter ⟨st.toArray⟩ 0) }) rfl hO
   (fun M=>⟨_,aP _ _ _,bW _ _ _,aS _ _,rfl⟩)
  refine ⟨_,_,_,iE φ sl (.at w.heap.size),?_,q1,.ptr (aP _ _ _),q3,q2.kp⟩;simp only [Instr.range,Sem.run_bind,aK hu,Result.andThen_ok,Sem.run_pure];rfl
 ·rename_i k e i hO hu;split at hx
  ·rename_i hi;injection hx with hx;subst hx;have ho:=F.objs i;rw [hi] at ho;obtain ⟨b,eF,clock,h1,h2,h3,h4,h5⟩:=ho;cases r with
   | map hφ=>
   rename_i b'
   have:b'=b:=by rw [h1] at hφ;injection hφ with e;exact e.symm
   subst this;have hne:i≠sl:=by rintro rfl;rw [hi] at hO;cases hO
   obtain ⟨q1,q2,q3⟩:=F.alloc (i:=sl) (p:=.OC i) (o:=.mapIter (some b') clock #[] clock) (w':={ w with heap:=w.heap.push (.mapIter (some b') clock #[] clock) }) rfl hO
    (fun M=>⟨_,b',clock,aP _ _ _,bW _ _ _,by rw [mh _ _ hne];exact h1,aS _ _⟩)
   refine ⟨_,_,_,iE φ sl (.at w.heap.size),?_,q1,.ptr (aP _ _ _),q3,q2.kp⟩;have hg:(getObj b').run P w = .ok (.map eF clock) w:=by simp [getObj,Sem.run,h3]
   simp only [Instr.range,Sem.run_bind,aK hu,Result.andThen_ok,Sem.run_pure,hg];rfl
  ·cases hx
 ·cases hx
theorem Pf {κ:bB} {φ:bJ} {w:World} {s:bQ} {a:Act} (F:aC κ φ w s a) {x:RV} {v:Value} {str:Bool} {ty:TypeId} {res:cB}
 (hx:Cj s.O x str=some res) (r:bE κ φ s.O w.heap x v):Out P κ φ w s a res.val res.upd (Instr.next v str ty):=by
 unfold Cj at hx;split at hx
 ·rename_i j;cases r with
  | ptr hφ=>
  rename_i b;split at hx
  ·rename_i st pos rest hO;have ho:=F.objs j;rw [hO] at ho;obtain ⟨b',h1,h2,h3,h4⟩:=ho
   have:b'=b:=by rw [h1] at hφ;injection hφ
   subst this;have hg:(getObj b').run P w = .ok (.stringIter ⟨st.toArray⟩ pos) w:=by simp [getObj,Sem.run,h3]
   have hsz:(ByteArray.mk st.toArray).size=st.length:=by simp [ByteArray.size]
   split at hx
   ·injection hx with hx;subst hx
    have hlt:¬pos < st.length:=fun h=>by
     have:=congrArg List.length h4
     rw [List.length_drop,List.length_nil] at this;omega
    refine Out.pure F (v:=.tuple #[.bool false]) ?_ (.d (Xf _));simp only [Instr.next,Sem.run_bind,hg,Result.andThen_ok,hsz];rw [if_neg hlt];rfl
   ·rename_i c r0;injection hx with hx;subst hx;obtain ⟨hlt,d1,d2⟩:=R3 h4;have hlt2:pos < (ByteArray.mk st.toArray).size:=by rw [hsz];exact hlt
    have hq:∀(o:Obj),(setObj b' o).run P w = .ok () (World.row w b' o):=fun o=>by simp [setObj,Sem.run,h3,World.row]
    obtain ⟨q1,q2,q3⟩:=F.write (i:=j) (p:=.sit st (pos+Gc c st pos) ((c::r0).drop (Gc c st pos))) (o:=.stringIter ⟨st.toArray⟩ (pos+Gc c st pos)) h2 h1
     (fun c ty fz e=>by rw [h3] at e;cases e) (fun n hn=>by simp [ay.dn] at hn) (fun M=>⟨b',h1,h2,dO h3,by rw [h4,List.drop_drop]⟩)
    refine ⟨.tuple #[.bool true,goInt pos,.int .i32 (Q5 c st pos)],_,κ,φ,?_,q1,.d (.aZ rfl (fun i x v hx hv=>?_)),q3,q2.kp⟩
    ·simp only [Instr.next,Sem.run_bind,hg,Result.andThen_ok,hsz];rw [if_pos hlt];rw [←d1,←d2];simp only [Sem.run_bind,hq,Result.andThen_ok,Sem.run_pure]
    ·match i,hx,hv with
     | 0,hx,hv=>simp at hx hv;subst hx;subst hv;exact .bool _
     | 1,hx,hv=>simp at hx hv;subst hx;subst hv;exact fA _
     | 2,hx,hv=>simp at hx hv;subst hx;subst hv;exact .int _ _
     | i+3,hx,hv=>simp at hx
  ·rename_i m hO;split at hx
   ·rename_i hm;injection hx with hx;subst hx;have ho:=F.objs j;rw [hO] at ho;obtain ⟨b',mb,c,h1,h2,h3,h4⟩:=ho
    have:b'=b:=by rw [h1] at hφ;injection hφ
    subst this;have hmo:=F.objs m;rw [hm] at hmo;obtain ⟨b2,eF,clock,k1,k2,k3,k4,k5⟩:=hmo
    have:b2=mb:=by rw [h3] at k1;injection k1 with e;exact e.symm
    subst this
    have hme:eF = #[]:=by
     apply Array.eq_empty_of_size_eq_zero;simpa using k4.1
    subst hme;have hg:(getObj b').run P w = .ok (.mapIter (some b2) c #[] c) w:=by simp [getObj,Sem.run,h4]
    have hg2:(getObj b2).run P w = .ok (.map #[] clock) w:=by simp [getObj,Sem.run,k3]
    refine Out.pure F (v:=.tuple #[.bool false]) ?_ (.d (Xf _));simp only [Instr.next,Sem.run_bind,hg,hg2,Result.andThen_ok];have hf:∀p:MapEntry→Bool,(#[]:Array MapEntry).filter p = #[]:=fun p=>by apply Array.ext';simp
    simp only [hf];simp [choose,Sem.run,Question.forced]
   ·cases hx
  ·cases hx
 ·cases hx
end Go.Am
