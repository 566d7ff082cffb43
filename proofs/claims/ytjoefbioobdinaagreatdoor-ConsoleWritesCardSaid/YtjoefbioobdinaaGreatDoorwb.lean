/-
  Texts that the claim leans on: AmSound3, AmSound4, AmSound5, AmSound6, AmSound7.
-/
import Derived.Test.YtjoefbioobdinaaGreatDoorwa
import Derived.Laws.Tables
import Derived.IntWalk
namespace Go.Am
set_option linter.unusedSectionVars false
variable {P:Program} [Gl]
theorem jC {κ:bE} {φ:bP} {O:Tab} {h:Heap} {x:RV} {v:Value} (r:bJ κ φ O h x v) (hk:dO x=true) :
 v.cells.size=x.cells.length∧(∀u∈v.cells,u.oneCell=true)∧
  ∀(j:Nat) (y:RV) (u:Value),x.cells[j]? = some y→v.cells[j]? = some u→bJ κ φ O h y u:=by
 have one:∀{x:RV} {v:Value},bJ κ φ O h x v→x.cells=[x]→v.cells = #[v]→v.oneCell=true→
  v.cells.size=x.cells.length∧(∀u∈v.cells,u.oneCell=true)∧∀(j:Nat) (y:RV) (u:Value),x.cells[j]? = some y→v.cells[j]? = some u→bJ κ φ O h y u:=by
  intro x v r h1 h2 h3;rw [h1,h2];refine ⟨rfl,by simpa using h3,fun j y u hy hu=>?_⟩;cases j with
  | zero=>simp at hy hu;subst hy;subst hu;exact r
  | succ j=>simp at hy
 cases r with
 | bot v=>simp [dO] at hk
 | und=>simp [dO] at hk
 | d hr=>
   rename_i x;obtain ⟨h1,h2⟩:=hr.cells;refine ⟨by simpa [RV.cells] using h1,fun u hu=>?_,fun j y u hy hu=>?_⟩
   ·cases hr with
    | agg hl hs hr=>
      obtain ⟨k,hk'⟩:=Array.mem_iff_getElem?.1 hu;simp only [Value.cells] at hk';have hlt:=(Array.getElem?_eq_some_iff.1 hk').1;simp only [DV.cells] at h2;rename_i cs vs;have hkc:k < cs.length:=by omega
      have:cs[k]? = some cs[k]:=by simp [hkc]
      exact (hr k _ _ this hk').oneCell (hs _ (by simp))
    | bn=>simp [dO] at hk
    | _=>simp only [Value.cells,List.mem_toArray,List.mem_singleton] at hu;subst hu;rfl
   ·simp only [RV.cells,List.getElem?_map] at hy;cases e:x.cells[j]? with
    | none=>rw [e] at hy;simp at hy
    | some y'=>rw [e] at hy;simp at hy;subst hy;exact .d (h2 j y' u e hu)
 | agg hl hs hr=>exact ⟨hl,hs,hr⟩
 | bn=>simp [dO] at hk
 | ptr h1=>exact one (.ptr h1) rfl rfl rfl
 | gU h1=>exact one (.gU h1) rfl rfl rfl
 | bB h1 h2 h3 h4 h5=>exact one (.bB h1 h2 h3 h4 h5) rfl rfl rfl
 | own h1 h2 h3 h4 h5=>exact one (.own h1 h2 h3 h4 h5) rfl rfl rfl
 | gL h1=>exact one (.gL h1) rfl rfl rfl
 | sub h1 h2 h3 h4=>exact one (.sub h1 h2 h3 h4) rfl rfl rfl
 | oH h1=>exact one (.oH h1) rfl rfl rfl
 | map h1=>exact one (.map h1) rfl rfl rfl
 | sl h1 h2 h3 h4 h5 h6 h7=>exact one (.sl h1 h2 h3 h4 h5 h6 h7) rfl rfl rfl
 | gI h1 h2 h3 h4=>exact one (.gI h1 h2 h3 h4) rfl rfl rfl
theorem mI (sz:Nat) (agg:Bool):∀(n:Nat) (l:List DV),(chunks sz agg n l).length=n
 | 0,_=>rfl
 | n+1,l=>by simp [chunks,mI sz agg n]
theorem xE (sz:Nat) (agg:Bool):∀(n:Nat) (l:List DV) (i:Nat) (x:DV),(chunks sz agg n l)[i]? = some x→
 i < n∧x=(bif agg then .agg ((l.drop (i*sz)).take sz) else (l.drop (i*sz)).headD .aG)
 | 0,_,i,x,h=>by simp [chunks] at h
 | n+1,l,0,x,h=>by simp [chunks] at h;subst h;simp
 | n+1,l,i+1,x,h=>by
   simp only [chunks,List.getElem?_cons_succ] at h;obtain ⟨h1,h2⟩:=xE sz agg n (l.drop sz) i x h;refine ⟨by omega,?_⟩;rw [h2,List.drop_drop]
   have:sz+i*sz=(i+1)*sz:=by rw [Nat.add_mul];omega
   rw [this]
theorem zP {κ:bE} {h:Heap} {c:Array Value} {o sz n:Nat} {agg:Bool} {l:List DV} (hl:l.length=n*sz) (hs:∀y∈l,y.iD=true) (hg:agg=true∨sz=1)
 (hc:o+n*sz≤c.size) (hr:∀(k:Nat) (y:DV) (v:Value),l[k]? = some y→c[o+k]? = some v→DR κ h y v):EL κ h c o sz (chunks sz agg n l):=by
 have key:∀(i:Nat) (x:DV),(chunks sz agg n l)[i]? = some x→i < n∧x.cells=(l.drop (i*sz)).take sz:=by
  intro i x hx;obtain ⟨h1,h2⟩:=xE sz agg n l i x hx;refine ⟨h1,?_⟩;cases agg with
  | true=>rw [h2];rfl
  | false=>
    rcases hg with hg | hg
    ·simp at hg
    ·subst hg;simp only [Nat.mul_one,cond_false] at h2 ⊢;have hlt:i < l.length:=by omega
     rw [List.drop_eq_getElem_cons hlt] at h2 ⊢;simp only [List.headD_cons] at h2;have hsc:=hs l[i] (by simp);rw [h2];simp only [List.take_succ_cons,List.take_zero];generalize l[i]=q at hsc;cases q<;>first | rfl | (simp [DV.iD] at hsc)
 refine ⟨fun x hx=>?_,by rw [mI];exact hc,fun i x j y v hx hy hv=>?_⟩
 ·obtain ⟨i,hi⟩:=List.mem_iff_getElem?.1 hx;obtain ⟨h1,h2⟩:=key i x hi;rw [h2];refine ⟨?_,fun y hy=>hs y (List.mem_of_mem_drop (List.mem_of_mem_take hy))⟩
  have:=Nat.mul_le_mul_right sz (show i+1≤n from h1)
  rw [Nat.add_mul] at this;simp;omega
 ·obtain ⟨h1,h2⟩:=key i x hx;rw [h2,List.getElem?_take] at hy;split at hy
  ·rw [List.getElem?_drop] at hy;refine hr _ y v hy ?_;rw [←Nat.add_assoc];exact hv
  ·simp at hy
theorem gX {l:List DV} (h:gJ l=true):∀y∈l,y.iD=true:=by simpa [gJ] using h
theorem kC {w:World} {t z b o:Nat} {c:Array Value} {ty:TypeId} {fz:Nat×Nat} {v:Value} (hz:(Env.of P).size t=some z) (hb:w.heap[b]? = some (.cells c ty fz))
 (hf:uE fz c.size) (hv:v.cells.size=z) (hn:o+z≤c.size) (h1:∀x∈v.cells,x.oneCell=true) :
 (Instr.storeAt t (.pointer (some ⟨b,o,none⟩)) v).run P w = .ok () (World.row w b (.cells (eP c o v.cells.toList) ty fz)):=by
 simp only [Instr.storeAt,Instr.sureAddr,Sem.run_bind,Sem.run_pure,Result.andThen_ok];exact wF hz hb hf hv hn h1
theorem rM (n:Nat):uE (0,0) n:=fun o _ h=>by omega
theorem Dw (ty:TypeId) (n:Nat):YK ty (0,0) n:=⟨rM n,fun _=>Nat.zero_le _⟩
theorem xG {c:Array Value} {o:Nat} {vs:List Value} {v:Value} (h:v∈eP c o vs):v∈c∨v∈vs:=by
 simp only [eP,splice,List.mem_toArray,List.mem_append] at h;rcases h with (h | h) | h
 ·exact .inl (by have:=List.mem_of_mem_take h;simpa using this)
 ·exact .inr h
 ·exact .inl (by have:=List.mem_of_mem_drop h;simpa using this)
theorem EL.set {κ κ' : bE} {h h' : Heap} {c:Array Value} {sz idx off:Nat} {els:List DV} {y:DV} {vs:List Value} (e:EL κ h c 0 sz els) (hm:∀b,κ b = .dN→κ' b = .dN∧h'[b]? = h[b]?)
 (hi:idx < els.length) (hv:off+vs.length≤sz) (hy:y.cells.length=sz∧∀z∈y.cells,z.iD=true)
 (hr:∀(j:Nat) (z:DV) (v:Value),y.cells[j]? = some z→(if j < off then c[idx*sz+j]? else if j < off+vs.length then vs[j-off]? else c[idx*sz+j]?)=some v→DR κ' h' z v) :
 EL κ' h' (eP c (idx*sz+off) vs) 0 sz (els.set idx y):=by
 obtain ⟨e1,e2,e3⟩:=e;have hle:=Nat.mul_le_mul_right sz (show idx+1≤els.length from hi)
 rw [Nat.add_mul] at hle;have hb:idx*sz+off+vs.length≤c.size:=by omega
 refine ⟨fun x hx=>?_,by rw [dV _ _ _ hb];simpa using e2,fun i x j z v hx hz hv'=>?_⟩
 ·rcases List.mem_or_eq_of_mem_set hx with h1 | h1
  ·exact e1 x h1
  ·subst h1;exact hy
 ·rw [iE _ _ _ hb] at hv';simp only [Nat.zero_add] at hv';by_cases hne:i=idx
  ·subst hne;rw [List.getElem?_set_self hi] at hx;injection hx with hx;subst hx;refine hr j z v hz ?_;by_cases q1:j < off
   ·rw [if_pos (by omega)] at hv';rw [if_pos q1];exact hv'
   ·rw [if_neg (by omega)] at hv';by_cases q2:j < off+vs.length
    ·rw [if_pos (by omega)] at hv';rw [if_neg q1,if_pos q2,←hv'];congr 1;omega
    ·rw [if_neg (by omega)] at hv';rw [if_neg q1,if_neg q2];exact hv'
  ·rw [List.getElem?_set_ne (fun h=>hne h.symm)] at hx;have hxl:=(e1 x (List.mem_iff_getElem?.2 ⟨i,hx⟩)).1;have hj:j < sz:=by have:=(List.getElem?_eq_some_iff.1 hz).1;omega
   have hv2:c[i*sz+j]? = some v:=by
    rcases Nat.lt_or_ge i idx with q | q
    ·have:=Nat.mul_le_mul_right sz (show i+1≤idx from q)
     rw [Nat.add_mul] at this;rw [if_pos (by omega)] at hv';exact hv'
    ·have:=Nat.mul_le_mul_right sz (show idx+1≤i by omega)
     rw [Nat.add_mul] at this;rw [if_neg (by omega),if_neg (by omega)] at hv';exact hv'
   exact (e3 i x j z v hx hz (by simpa using hv2)).mono hm
theorem Dx (O:Tab) (i:Nat) (p:av):aX O [(i,p)]=bF O i (some p):=rfl
theorem rO {i:Nat}:∀(u:List (Nat×av)) (O:Tab),(u.all fun p=>!(Nat.beq p.1 i))=true→aX O u i=O i:=by
 intro u;induction u with
 | nil=>intro O _;rfl
 | cons p u ih=>
   intro O h;simp only [List.all_cons,Bool.and_eq_true,Bool.not_eq_true'] at h
   have:i≠p.1:=fun e=>by rw [vK e.symm] at h;simp at h
   have e2:=ih (bF O p.1 (some p.2)) h.2;simp only [aX,List.foldl_cons] at e2 ⊢;rw [e2,dP _ _ this]
theorem Ke {κ:bE} {φ:bP} {w:World} {s:cu} {a:Act} (F:aA κ φ w s a) {t:Nat} {x y:RV} {v u:Value} {res:dz}
 (hx:lV (Env.of P) s.O t x y=some res) (hc:∀b∈res.conds,b=true) (r:bJ κ φ s.O w.heap x v) (r2:bJ κ φ s.O w.heap y u) :
 J8 P κ φ w s a res.upd (Instr.storeAt t v u):=by
 unfold lV at hx;cases hz:(Env.of P).size t with
 | none=>rw [hz] at hx;simp at hx
 | some z=>
   rw [hz] at hx;cases x<;>simp only at hx<;>try (simp at hx;done)
   case ptr i off=>
    cases r with
    | ptr hφ=>
      rename_i b;have ho:=F.objs i;cases hO:s.O i with
      | none=>rw [hO] at hx;simp at hx
      | some p=>
        rw [hO] at hx ho;cases p<;>simp only at hx<;>try (simp at hx;done)
        case box ty cs=>
         obtain ⟨b',c,h1,h2,h3,h4,h5,h6⟩:=ho;rw [h1] at hφ;injection hφ with hφ;subst hφ;cases hg:(dO y&&Nat.beq y.cells.length z&&Nat.ble (off+z) cs.length) with
         | false=>rw [hg] at hx;simp at hx
         | true=>
           rw [hg] at hx;simp only [cond_true,Option.some.injEq] at hx;subst hx;simp only [Bool.and_eq_true] at hg;obtain ⟨⟨g1,g2⟩,g3⟩:=hg;have g2:=cB g2;have g3:=Nat.le_of_ble_eq_true g3;obtain ⟨c1,c2,c3⟩:=jC r2 g1;have hrun:=kC hz h3 (rM _) (by rw [c1,g2]) (o:=off) (by omega) c2;have hvl:u.cells.toList.length=z:=by simp;omega
           have hsize:(eP c off u.cells.toList).size=c.size:=dV _ _ _ (by omega)
           obtain ⟨q1,q2,q3⟩:=F.write (p:=.box ty (splice cs off y.cells)) (o:=.cells (eP c off u.cells.toList) ty (0,0)) h2 h1
            (fun c0 Q9 Ra hc0=>by rw [h3] at hc0;injection hc0 with hc0;injection hc0 with e1 e2 e3;subst e1;subst e2;exact ⟨_,_,rfl,hsize⟩)
            (fun n hn=>by simp [av.dB] at hn)
            (fun M=>by
              refine ⟨b',_,h1,h2,dL h3,?_,fun v hv=>?_,fun j x v hx hv=>?_⟩
              ·rw [hsize,gF _ _ _ (by omega)];exact h4
              ·rcases xG hv with hv | hv
               ·exact h5 v hv
               ·exact c2 v (by simpa using hv)
              ·rw [jg _ _ _ (by omega)] at hx;rw [iE _ _ _ (by omega)] at hv;by_cases k1:j < off
               ·rw [if_pos k1] at hx hv;exact (h6 j x v hx hv).mono M
               ·rw [if_neg k1] at hx hv;by_cases k2:j < off+z
                ·rw [if_pos (by omega)] at hx hv;exact (c3 _ x v hx (by simpa using hv)).mono M
                ·rw [if_neg (by omega)] at hx hv;exact (h6 j x v hx hv).mono M)
           exact ⟨_,κ,φ,hrun,q1,q3,q2.kp⟩
        case arr ty sz els=>
         cases y<;>(try simp only at hx)<;>try (simp at hx;done)
         rename_i y;cases y<;>(try simp only at hx)<;>try (simp at hx;done)
         rename_i l;cases hu:(Env.of P).und t with
         | none=>rw [hu] at hx;simp at hx
         | some d=>
           rw [hu] at hx;cases d<;>simp only at hx<;>try (simp at hx;done)
           rename_i n e;cases hg:(Nat.beq off 0&&Nat.beq l.length z&&Nat.beq z (n*sz)&&gJ l&&Nat.ble 1 sz&&((Env.of P).isAgg e||Nat.beq sz 1)) with
           | false=>rw [hg] at hx;simp at hx
           | true=>
             rw [hg] at hx;simp only [cond_true,Option.some.injEq] at hx;subst hx;simp only [Bool.and_eq_true,Bool.or_eq_true] at hg;obtain ⟨⟨⟨⟨⟨g1,g2⟩,g3⟩,g4⟩,g5⟩,g6⟩:=hg
             have:=cB g1;subst this
             have g2:=cB g2;have g3:=cB g3;have g4:=gX g4;have hlen:els.length=n:=by simpa using hc
             cases r2 with
             | d hr=>
               rcases ho with ⟨h1,h2⟩ | ⟨b',c,fz,h1,h2,h3,h4,h5⟩
               ·rw [h1] at hφ;cases hφ
               ·rw [h1] at hφ;injection hφ with hφ;subst hφ;obtain ⟨c1,c2,c3⟩:=jC (φ:=φ) (O:=s.O) (.d hr) rfl;have d1:=hr.cells;have hle:n*sz≤c.size:=by have:=h5.2.1;rw [hlen] at this;omega
                have hvl:u.cells.toList.length=z:=by simp only [DV.cells] at d1;simp;omega
                have hrun:=kC hz h3 h4 (by simpa using hvl) (o:=0) (by omega) c2;have hsize:(eP c 0 u.cells.toList).size=c.size:=dV _ _ _ (by omega)
                obtain ⟨q1,q2,q3⟩:=F.write (p:=.arr ty sz (chunks sz ((Env.of P).isAgg e) n l)) (o:=.cells (eP c 0 u.cells.toList) ty fz) h2 h1
                 (fun c0 Q9 Ra hc0=>by rw [h3] at hc0;injection hc0 with hc0;injection hc0 with e1 e2 e3;subst e1;subst e2;exact ⟨_,_,rfl,hsize⟩)
                 (fun m hm=>by simp only [av.dB,mI,Option.some.injEq] at hm;rw [hO];simp [av.dB];omega)
                 (fun M=>.inr ⟨b',_,fz,h1,h2,dL h3,by rw [hsize];exact h4,by
                   refine zP (by omega) g4 (by rcases g6 with g6 | g6;exact .inl g6;exact .inr (cB g6)) (by rw [hsize];omega) (fun k y' v' hy' hv'=>?_);rw [iE _ _ _ (by omega)] at hv';have hkl:=(List.getElem?_eq_some_iff.1 hy').1;rw [if_neg (by omega),if_pos (by omega)] at hv';exact (d1.2 k y' v' hy' (by simpa using hv')).mono M.dN⟩)
                exact ⟨_,κ,φ,hrun,q1,q3,q2.kp⟩
   case gU i sz idx off=>
    cases r with
    | gU hφ=>
      rename_i b;cases hO:s.O i with
      | none=>rw [hO] at hx;simp at hx
      | some p=>
        rw [hO] at hx;cases p<;>simp only at hx<;>try (simp at hx;done)
        rename_i ty sz' els;cases hb:Nat.beq sz' sz with
        | false=>rw [hb] at hx;simp at hx
        | true=>
          have:=cB hb;subst this
          rw [hb] at hx;simp only [cond_true] at hx;cases htk:sI s.O y with
          | none=>rw [htk] at hx;simp at hx
          | some pk=>
            obtain ⟨y',uu,cc⟩:=pk;rw [htk] at hx;simp only at hx;cases hall:(uu.all fun p=>!(Nat.beq p.1 i)) with
            | false=>rw [hall] at hx;simp at hx
            | true=>
              rw [hall] at hx;simp only [Bool.not_true,cond_false] at hx
              have fin:∀(yy:DV),(∀b∈cc,b=true)→idx < els.length→(yy.cells.length=sz'∧∀q∈yy.cells,q.iD=true)→y'.cells.length=z→off+z≤sz'→(∀q∈y'.cells,q.iD=true)→
               (∀(j:Nat) (q:DV),yy.cells[j]? = some q→(if j < off then (els.getD idx .aG).cells[j]? else if j < off+z then y'.cells[j-off]? else (els.getD idx .aG).cells[j]?)=some q)→
               J8 P κ φ w s a (uu++[(i,.arr ty sz' (els.set idx yy))]) (Instr.storeAt t (.pointer (some ⟨b,idx*sz'+off,none⟩)) u):=by
               intro yy hcc hi V4 hyl hoz hys hjq;obtain ⟨κ',F1,M1,R1,_,d1⟩:=Bl F (ku.refl _) htk hcc r2;have Qu:aX s.O uu i=some (.arr ty sz' els):=by rw [rO uu s.O hall];exact hO
               have ho:=F1.objs i;simp only [Qu] at ho;obtain ⟨d2,d3⟩:=d1.cells;rcases ho with ⟨h1,h2⟩ | ⟨b',c,fz,h1,h2,h3,h4,h5⟩
               ·rw [h1] at hφ;cases hφ
               ·rw [h1] at hφ;injection hφ with hφ;subst hφ;have hx:els[idx]? = some (els.getD idx .aG):=by simp [List.getD,hi]
                obtain ⟨e1,e2,e3,e4⟩:=xD h5 hx;simp only [Nat.zero_add] at e1 e4;have hvl:u.cells.toList.length=z:=by simp;omega
                have hone:∀x∈u.cells,x.oneCell=true:=fun x hx=>by
                 obtain ⟨k,hk⟩:=Array.mem_iff_getElem?.1 hx;have hlt:=(Array.getElem?_eq_some_iff.1 hk).1;have hkc:k < y'.cells.length:=by omega
                 exact (d3 k y'.cells[k] x (by simp [hkc]) hk).oneCell (hys _ (by simp))
                have hrun:=kC hz h3 h4 (by simpa using hvl) (o:=idx*sz'+off) (by omega) hone;have hsize:(eP c (idx*sz'+off) u.cells.toList).size=c.size:=dV _ _ _ (by omega)
                obtain ⟨q1,q2,q3⟩:=F1.write (p:=.arr ty sz' (els.set idx yy)) (o:=.cells (eP c (idx*sz'+off) u.cells.toList) ty fz) h2 h1
                 (fun c0 Q9 Ra hc0=>by rw [h3] at hc0;injection hc0 with hc0;injection hc0 with e1 e2 e3;subst e1;subst e2;exact ⟨_,_,rfl,hsize⟩)
                 (fun m hm=>by simp only [av.dB,List.length_set,Option.some.injEq] at hm;simp only [Qu];simp [av.dB];omega)
                 (fun M=>.inr ⟨b',_,fz,h1,h2,dL h3,by rw [hsize];exact h4,by
                   refine h5.set M.dN hi (by omega) V4 (fun j q v' hq hv'=>?_);have hj:=hjq j q hq;by_cases k1:j < off
                   ·rw [if_pos k1] at hj hv';exact (e4 j q v' hj hv').mono M.dN
                   ·rw [if_neg k1] at hj hv';by_cases k2:j < off+z
                    ·rw [if_pos k2] at hj;rw [if_pos (by omega)] at hv';exact (d3 _ q v' hj (by simpa using hv')).mono M.dN
                    ·rw [if_neg k2] at hj;rw [if_neg (by omega)] at hv';exact (e4 j q v' hj hv').mono M.dN⟩)
                refine ⟨_,κ',φ,hrun,?_,R1.trans q3,?_⟩
                ·rw [bL];exact q1
                ·rw [bL];exact M1.kp.trans q2.kp
              cases hg:(Nat.beq off 0&&Nat.beq z sz'&&Nat.beq y'.cells.length sz'&&gJ y'.cells) with
              | true=>
                rw [hg] at hx;simp only [cond_true,Option.some.injEq] at hx;subst hx;simp only [Bool.and_eq_true] at hg;obtain ⟨⟨⟨g1,g2⟩,g3⟩,g4⟩:=hg
                have:=cB g1;subst this
                have g2:=cB g2;have g3:=cB g3;have g4:=gX g4;refine fin y' (fun b hb=>hc b (by simp [hb])) (by simpa using hc (decide (idx < els.length)) (by simp)) ⟨g3,g4⟩ (by omega) (by omega) g4 (fun j q hq=>?_);have hj:=(List.getElem?_eq_some_iff.1 hq).1;rw [if_neg (by omega),if_pos (by omega)];simpa using hq
              | false=>
                rw [hg] at hx;simp only [cond_false] at hx;cases hg2:(Nat.beq y'.cells.length z&&gJ y'.cells) with
                | false=>rw [hg2] at hx;simp at hx
                | true=>
                  rw [hg2] at hx;simp only [cond_true,Option.some.injEq] at hx;subst hx;simp only [Bool.and_eq_true] at hg2;obtain ⟨g1,g3⟩:=hg2;have g1:=cB g1;have g2:=Nat.le_of_ble_eq_true (hc (Nat.ble (off+z) (els.getD idx .aG).cells.length) (by simp));have g3:=gX g3;have hi:idx < els.length:=by simpa using hc (decide (idx < els.length)) (by simp)
                  have hx:els[idx]? = some (els.getD idx .aG):=by simp [List.getD,hi]
                  generalize els.getD idx .aG=ex at *
                  have hl:ex.cells.length=sz'∧∀q∈ex.cells,q.iD=true:=by
                   have ho:=F.objs i;rw [hO] at ho;rcases ho with ⟨h1,h2⟩ | ⟨b',c,fz,h1,h2,h3,h4,h5⟩
                   ·subst h2;simp at hi
                   ·exact h5.1 _ (List.mem_iff_getElem?.2 ⟨idx,hx⟩)
                  generalize ex.cells=l at *;have hsl:(splice l off y'.cells).length=l.length:=gF _ _ _ (by omega);refine fin (.agg (splice l off y'.cells)) (fun b hb=>hc b (by simp [hb])) hi ⟨by show (splice l off y'.cells).length=sz';omega,fun q hq=>?_⟩ g1 (by omega) g3 (fun j q hq=>?_)
                  ·have hq:q∈splice l off y'.cells:=hq;simp only [splice,List.mem_append] at hq;rcases hq with (hq | hq) | hq
                   ·exact hl.2 q (List.mem_of_mem_take hq)
                   ·exact g3 q hq
                   ·exact hl.2 q (List.mem_of_mem_drop hq)
                  ·have hq:(splice l off y'.cells)[j]? = some q:=hq;rw [jg _ _ _ (by omega),g1] at hq;exact hq
theorem Dy {κ:bE} {h:Heap} {v:Value} {x:DV} (e:oneOf v=some x):DR κ h x v∧x.iD=true:=by
 cases v<;>simp only [oneOf] at e<;>try (simp at e;done)
 case bool b=>injection e with e;subst e;exact ⟨.bool b,rfl⟩
 case int k n=>injection e with e;subst e;exact ⟨.int k n,rfl⟩
 case string s=>injection e with e;subst e;exact ⟨by have:=DR.str (κ:=κ) (h:=h) s.data.toList;simpa using this,rfl⟩
 case pointer a=>cases a<;>simp at e;subst e;exact ⟨.aG,rfl⟩
 case slice a l c=>
  cases a<;>simp only at e
  ·cases hb:(Nat.beq l 0&&Nat.beq c 0) with
   | false=>rw [hb] at e;simp at e
   | true=>
     rw [hb] at e;simp only [cond_true,Option.some.injEq] at e;subst e;simp only [Bool.and_eq_true] at hb
     have:=cB hb.1;subst this
     exact ⟨.iU (fun _=>⟨cB hb.2,fun _=>rfl⟩),rfl⟩
  ·simp at e
 case map a=>cases a<;>simp at e;subst e;exact ⟨.ak,rfl⟩
 case nilFunc=>injection e with e;subst e;exact ⟨.Ba,rfl⟩
 case nilIface=>injection e with e;subst e;exact ⟨.xk,rfl⟩
theorem uL {κ:bE} {h:Heap}:∀(l:List Value) (r:List DV),nQ l=some r→r.length=l.length∧(∀y∈r,y.iD=true)∧∀(i:Nat) (x:DV) (v:Value),r[i]? = some x→l[i]? = some v→DR κ h x v
 | [],r,e=>by simp [nQ] at e;subst e;simp
 | v::l,r,e=>by
   simp only [nQ] at e;cases h1:oneOf v with
   | none=>rw [h1] at e;simp at e
   | some x=>
     cases h2:nQ l with
     | none=>rw [h1,h2] at e;simp at e
     | some q=>
       rw [h1,h2] at e;simp at e;subst e;obtain ⟨g1,g2,g3⟩:=uL (κ:=κ) (h:=h) l q h2;obtain ⟨k1,k2⟩:=Dy (κ:=κ) (h:=h) h1;refine ⟨by simp [g1],fun y hy=>?_,fun i x' v' hx hv=>?_⟩
       ·rcases List.mem_cons.1 hy with rfl | hy
        ·exact k2
        ·exact g2 y hy
       ·cases i with
        | zero=>simp at hx hv;subst hx;subst hv;exact k1
        | succ i=>exact g3 i x' v' (by simpa using hx) (by simpa using hv)
theorem iI {κ:bE} {h:Heap} {v:Value} {x:DV} (e:DV.qR v=some x):DR κ h x v:=by
 by_cases ha:∃cs,v = .agg cs
 ·obtain ⟨cs,rfl⟩:=ha;simp only [DV.qR] at e;cases h1:nQ cs.toList with
  | none=>rw [h1] at e;simp at e
  | some l=>
    rw [h1] at e;simp at e;subst e;obtain ⟨g1,g2,g3⟩:=uL (κ:=κ) (h:=h) _ _ h1;exact .agg (by simpa using g1.symm) g2 (fun i x v hx hv=>g3 i x v hx (by simpa using hv))
 ·by_cases ht:∃cs,v = .tuple cs
  ·obtain ⟨cs,rfl⟩:=ht;simp only [DV.qR] at e;cases h1:nQ cs.toList with
   | none=>rw [h1] at e;simp at e
   | some l=>
     rw [h1] at e;simp at e;subst e;obtain ⟨g1,g2,g3⟩:=uL (κ:=κ) (h:=h) _ _ h1;exact .bn (by simpa using g1.symm) (fun i x v hx hv=>g3 i x v hx (by simpa using hv))
  ·have:DV.qR v=oneOf v:=by cases v<;>first | rfl | exact absurd ⟨_,rfl⟩ ha | exact absurd ⟨_,rfl⟩ ht
   rw [this] at e;exact (Dy e).1
theorem wV {t:Nat} {z:DV} (h:(Env.of P).zero t=some z):∃i v,P.info? t=some i∧i.zero=some v∧DV.qR v=some z:=by
 simp only [Env.of] at h;cases e:P.info? t with
 | none=>rw [e] at h;simp at h
 | some i=>
   rw [e] at h;simp only at h;cases e2:i.zero with
   | none=>rw [e2] at h;simp at h
   | some v=>rw [e2] at h;exact ⟨i,v,rfl,e2,h⟩
theorem fC {t:Nat} {z:DV} (h:(Env.of P).zero t=some z) (w:World):∃v,(zeroValue t).run P w = .ok v w∧DV.qR v=some z:=by
 obtain ⟨i,v,h1,h2,h3⟩:=wV h;exact ⟨v,by simp [zeroValue,typeInfo,h1,h2],h3⟩
theorem xH (t:Nat) (v:Value) (w:World):(newVar t v).run P w = .ok ⟨w.heap.size,0,none⟩ { w with heap:=w.heap.push (.cells v.cells t (0,0)) }:=by
 simp [newVar,newRow]
theorem Dz {κ:bE} {φ:bP} {w:World} {s:cu} {a:Act} (F:aA κ φ w s a) {sl t:Nat} {x:RV} {v:Value} {res:dz}
 (hx:pW (Env.of P) s.O sl t x=some res) (r:bJ κ φ s.O w.heap x v) :
 Out P κ φ w s a res.val res.upd (do pure (.pointer (some (←newVar t v)))):=by
 unfold pW at hx;cases hO:s.O sl with
 | some p=>rw [hO] at hx;simp at hx
 | none=>
   rw [hO] at hx;simp only at hx;cases hn:newObj (Env.of P) t x with
   | none=>rw [hn] at hx;simp at hx
   | some p3=>
     obtain ⟨p,u,cc⟩:=p3;rw [hn] at hx;simp only [Option.some.injEq] at hx;subst hx
     have hrun:(do pure (Value.pointer (some (←newVar t v))):Sem Value).run P w = .ok (.pointer (some ⟨w.heap.size,0,none⟩)) { w with heap:=w.heap.push (.cells v.cells t (0,0)) }:=by
      simp [xH]
     have fin:u=[]→(dS κ φ s.O w.heap (qL κ w.heap.size (.own sl)) (iG φ sl (.at w.heap.size)) (bF s.O sl (some p)) (w.heap.push (.cells v.cells t (0,0)))→
      OR (qL κ w.heap.size (.own sl)) (iG φ sl (.at w.heap.size)) (bF s.O sl (some p)) (w.heap.push (.cells v.cells t (0,0))) sl (some p))→
      Out P κ φ w s a (.ptr sl 0) ((sl,p)::u) (do pure (.pointer (some (←newVar t v)))):=by
      intro hu hor;subst hu;obtain ⟨q1,q2,q3⟩:=F.alloc (i:=sl) (p:=p) (o:=.cells v.cells t (0,0)) (w':={ w with heap:=w.heap.push (.cells v.cells t (0,0)) }) rfl hO hor;exact ⟨_,_,_,_,hrun,q1,.ptr (aS _ _ _),q3,q2.kp⟩
     unfold newObj at hn;cases hz:(Env.of P).size t with
     | none=>rw [hz] at hn;simp at hn
     | some z=>
       rw [hz] at hn;simp only at hn;by_cases harr:∃n e,(Env.of P).und t=some (.array n e)
       ·obtain ⟨n,e,hu⟩:=harr;rw [hu] at hn;simp only at hn;cases x<;>(try simp only at hn)<;>try (simp at hn;done)
        rename_i y;cases y<;>(try simp only at hn)<;>try (simp at hn;done)
        rename_i cs;cases Dk:(Env.of P).size e with
        | none=>rw [Dk] at hn;simp at hn
        | some sz=>
          rw [Dk] at hn;simp only at hn;cases hg:(Nat.beq cs.length z&&Nat.beq z (n*sz)&&gJ cs&&Nat.ble 1 sz&&((Env.of P).isAgg e||Nat.beq sz 1)) with
          | false=>rw [hg] at hn;simp at hn
          | true=>
            rw [hg] at hn;simp only [cond_true,Option.some.injEq,Prod.mk.injEq] at hn;obtain ⟨rfl,rfl,rfl⟩:=hn;simp only [Bool.and_eq_true,Bool.or_eq_true] at hg;obtain ⟨⟨⟨⟨g1,g2⟩,g3⟩,g4⟩,g5⟩:=hg;have g1:=cB g1;have g2:=cB g2;have g3:=gX g3;cases r with
            | d hr=>
              obtain ⟨d1,d2⟩:=hr.cells;simp only [DV.cells] at d1 d2;refine fin rfl (fun M=>.inr ⟨_,_,(0,0),aS _ _ _,cZ _ _ _,aW _ _,rM _,?_⟩);exact zP (by omega) g3 (by rcases g5 with g5 | g5;exact .inl g5;exact .inr (cB g5)) (by omega) (fun k y v' hy hv'=>(d2 k y v' hy (by simpa using hv')).mono M.dN)
       ·have hn' : (bif Nat.beq x.cells.length z then
         match x with
         | .d (.bn _)=>none
         | .bn _=>none
         | .bot=>none
         | .und=>none
         | _=>some (av.box t x.cells,([]:List (Nat×av)),([]:List Bool))
         else none)=some (p,u,cc):=by
         cases hu:(Env.of P).und t with
         | none=>rw [hu] at hn;exact hn
         | some d=>rw [hu] at hn;cases d<;>first | exact hn | exact absurd ⟨_,_,hu⟩ harr
        cases hb:Nat.beq x.cells.length z with
        | false=>rw [hb] at hn';simp at hn'
        | true=>
          rw [hb] at hn';simp only [cond_true] at hn'
          have hk:dO x=true∧p = .box t x.cells∧u=[]:=by
           cases x<;>(try simp only at hn')<;>(try (simp at hn';done))<;>
            first
            | (simp only [Option.some.injEq,Prod.mk.injEq] at hn';exact ⟨rfl,hn'.1.symm,hn'.2.1.symm⟩)
            | (rename_i y;cases y<;>(try simp only at hn')<;>(try (simp at hn';done))<;>(simp only [Option.some.injEq,Prod.mk.injEq] at hn';exact ⟨rfl,hn'.1.symm,hn'.2.1.symm⟩))
          obtain ⟨k1,rfl,k3⟩:=hk;obtain ⟨c1,c2,c3⟩:=jC r k1;exact fin k3 (fun M=>⟨_,_,aS _ _ _,cZ _ _ _,aW _ _,c1,c2,fun j x' v' hx' hv'=>(c3 j x' v' hx' hv').mono M⟩)
theorem DC:∀(vs:List Value) (k:Nat) (c:Array Value) (o:Nat),o+k+vs.length≤c.size→
 (vs.zipIdx k).foldl (fun cs p=>cs.setIfInBounds (o+p.2) p.1) c=eP c (o+k) vs
 | [],k,c,o,_=>by simp [eP,splice]
 | v::vs,k,c,o,h=>by
   simp only [List.zipIdx_cons,List.foldl_cons];rw [DC vs (k+1) (c.setIfInBounds (o+k) v) o (by simp at h ⊢;omega)];unfold eP;rw [Array.toList_setIfInBounds,←Nat.add_assoc,vL _ _ _ _ (by simpa using h)]
theorem zQ {place:Nat→Option (Nat×Nat)} {c:Array Value} {i off size:Nat} {v:Value} {r:List (Nat×Value)} (hp:place i=some (off,size)) (hv:v.cells.size=size) (hc:off+size≤c.size) :
 Instr.fill place c ((i,v)::r)=Instr.fill place (eP c off v.cells.toList) r:=by
 simp only [Instr.fill,hp];have h1:(decide (v.cells.size≠size)||decide (off+v.cells.size > c.size))=false:=by simp [hv];omega
 rw [if_neg (by simpa using h1)]
 have:=DC v.cells.toList 0 c off (by simp;omega)
 congr 1;rw [←Array.foldl_toList];simpa using this
theorem GY {κ:bE} {φ:bP} {O:Tab} {h:Heap} {place size:Nat→Option (Nat×Nat)} (hps:∀i q,size i=some q→place i=some q) :
 ∀(parts:List (Nat×RV)) (pv:List (Nat×Value)) (z cs:List RV) (c:Array Value),laid size z parts=some cs→parts.all (fun p=>dO p.2)=true→
  c.size=z.length→(∀v∈c,v.oneCell=true)→(∀(j:Nat) (x:RV) (v:Value),z[j]? = some x→c[j]? = some v→bJ κ φ O h x v)→
  pv.length=parts.length→(∀(k:Nat) (p:Nat×RV) (q:Nat×Value),parts[k]? = some p→pv[k]? = some q→p.1=q.1∧bJ κ φ O h p.2 q.2)→
  ∃c',Instr.fill place c pv=some c'∧c'.size=cs.length∧(∀v∈c',v.oneCell=true)∧(∀(j:Nat) (x:RV) (v:Value),cs[j]? = some x→c'[j]? = some v→bJ κ φ O h x v)
 | [],pv,z,cs,c,hl,_,h1,h2,h3,h4,_=>by
   simp [laid] at hl;subst hl
   have:pv=[]:=List.eq_nil_of_length_eq_zero (by simpa using h4)
   subst this;exact ⟨c,rfl,h1,h2,h3⟩
 | (i,x)::parts,pv,z,cs,c,hl,hok,h1,h2,h3,h4,h5=>by
   cases pv with
   | nil=>simp at h4
   | cons q pv=>
     obtain ⟨i',v⟩:=q;obtain ⟨e1,e2⟩:=h5 0 (i,x) (i',v) rfl rfl;simp only at e1 e2;subst e1;simp only [List.all_cons,Bool.and_eq_true] at hok;obtain ⟨c1,c2,c3⟩:=jC e2 hok.1;simp only [laid] at hl;cases hs:size i with
     | none=>rw [hs] at hl;simp at hl
     | some p=>
       obtain ⟨off,n⟩:=p;rw [hs] at hl;simp only at hl;cases hg:(Nat.beq x.cells.length n&&Nat.ble (off+n) z.length) with
       | false=>rw [hg] at hl;simp at hl
       | true=>
         rw [hg] at hl;simp only [cond_true] at hl;simp only [Bool.and_eq_true] at hg;have g1:=cB hg.1;have g2:=Nat.le_of_ble_eq_true hg.2;rw [zQ (hps i _ hs) (by omega) (by omega)];have esp:z.take off++x.cells++z.drop (off+n)=splice z off x.cells:=by simp [splice,g1]
         rw [esp] at hl;have hvl:v.cells.toList.length=n:=by simp;omega
         refine GY hps parts pv _ cs _ hl hok.2 (by rw [dV _ _ _ (by omega),gF _ _ _ (by omega)];exact h1) (fun u hu=>?_) (fun j y u hy hu=>?_) (by simpa using h4) (fun k p q hp hq=>h5 (k+1) p q (by simpa using hp) (by simpa using hq))
         ·rcases xG hu with hu | hu
          ·exact h2 u hu
          ·exact c2 u (by simpa using hu)
         ·rw [jg _ _ _ (by omega)] at hy;rw [iE _ _ _ (by omega)] at hu;by_cases k1:j < off
          ·rw [if_pos k1] at hy hu;exact h3 j y u hy hu
          ·rw [if_neg k1] at hy hu;by_cases k2:j < off+n
           ·rw [if_pos (by omega)] at hy hu;exact c3 _ y u hy (by simpa using hu)
           ·rw [if_neg (by omega)] at hy hu;exact h3 j y u hy hu
theorem IX {fs:Array Field} (hall:fs.toList.all (fun f=>((Env.of P).size f.type).isSome)=true) :
 ∃places,fs.toList.mapM (fun f=>(P.info? f.type).map fun i=>(f.offset,i.size))=some places∧∀i q,jm (Env.of P) fs i=some q→places[i]? = some q:=by
 have key:∀(l:List Field),l.all (fun f=>((Env.of P).size f.type).isSome)=true→∃places,l.mapM (fun f=>(P.info? f.type).map fun i=>(f.offset,i.size))=some places∧
  ∀(i:Nat) (f:Field) (n:Nat),l[i]? = some f→(Env.of P).size f.type=some n→places[i]? = some (f.offset,n):=by
  intro l;induction l with
  | nil=>intro _;exact ⟨[],rfl,by simp⟩
  | cons f l ih=>
    intro hl;simp only [List.all_cons,Bool.and_eq_true] at hl;obtain ⟨places,h1,h2⟩:=ih hl.2;obtain ⟨n,hn⟩:=Option.isSome_iff_exists.1 hl.1;obtain ⟨i,d,hi,hi2,_⟩:=wT hn;refine ⟨(f.offset,n)::places,by simp [List.mapM_cons,hi,hi2,h1],fun k g m hg hm=>?_⟩;cases k with
    | zero=>simp at hg;subst hg;rw [hn] at hm;injection hm with hm;subst hm;rfl
    | succ k=>simpa using h2 k g m (by simpa using hg) hm
 obtain ⟨places,h1,h2⟩:=key fs.toList hall;refine ⟨places,h1,fun i q hq=>?_⟩;unfold jm at hq;cases hf:fs[i]? with
 | none=>rw [hf] at hq;simp at hq
 | some f=>
   rw [hf] at hq;simp only at hq;cases hn:(Env.of P).size f.type with
   | none=>rw [hn] at hq;simp at hq
   | some n=>rw [hn] at hq;simp at hq;subst hq;exact h2 i f n (by simpa using hf) hn
theorem Kg {κ:bE} {φ:bP} {w:World} {s:cu} {a:Act} (F:aA κ φ w s a) {t:Nat} {parts:List (Nat×RV)} {pv:Array (Nat×Value)} {res:dz}
 (hx:Bf (Env.of P) t parts=some res) (hl:pv.size=parts.length)
 (hr:∀(k:Nat) (p:Nat×RV) (q:Nat×Value),parts[k]? = some p→pv[k]? = some q→p.1=q.1∧bJ κ φ s.O w.heap p.2 q.2) :
 Out P κ φ w s a res.val res.upd (Instr.build t pv):=by
 unfold Bf at hx;cases hall:(parts.all fun p=>dO p.2) with
 | false=>rw [hall] at hx;simp at hx
 | true=>
   rw [hall] at hx;simp only [cond_true] at hx;cases hz:(Env.of P).zero t with
   | none=>rw [hz] at hx;simp at hx
   | some z=>
     obtain ⟨it,zv,hi,hzv,hof⟩:=wV hz;have hzd:DR κ w.heap z zv:=iI hof;have YW:dO (.d z)=true→(zv.cells.size=(z.cells.map RV.d).length∧(∀u∈zv.cells,u.oneCell=true)∧∀(j:Nat) (y:RV) (u:Value),(z.cells.map RV.d)[j]? = some y→zv.cells[j]? = some u→bJ κ φ s.O w.heap y u):=fun h=>jC (.d hzd) h;cases hu:(Env.of P).und t with
     | none=>rw [hz,hu] at hx;simp at hx
     | some d=>
       have hu' : P.underlying t=some d:=hu
       have fin:∀(place size:Nat→Option (Nat×Nat)) (cs:List RV),(∀i q,size i=some q→place i=some q)→laid size (z.cells.map .d) parts=some cs→dO (.d z)=true→
        (∀cells,Instr.fill place zv.cells pv.toList=some cells→P.built t pv.toList=some cells)→Out P κ φ w s a (qU cs) [] (Instr.build t pv):=by
        intro place size cs hps hlaid hok Rb;obtain ⟨z1,z2,z3⟩:=YW hok;obtain ⟨c',f1,f2,f3,f4⟩:=GY (κ:=κ) (φ:=φ) (O:=s.O) (h:=w.heap) hps parts pv.toList _ cs zv.cells hlaid hall z1 z2 z3 (by simpa using hl) (fun k p q hp hq=>hr k p q hp (by simpa using hq));exact Out.pure F (run_build w t pv c' (Rb c' f1)) (mZ f2 f3 f4)
       cases d<;>rw [hz,hu] at hx<;>simp only at hx<;>try (simp at hx;done)
       case struct fs=>
        cases hsz:((fs.toList.all fun f=>((Env.of P).size f.type).isSome)&&dO (.d z)) with
        | false=>rw [hsz] at hx;simp at hx
        | true=>
          rw [hsz] at hx;simp only [cond_true] at hx;simp only [Bool.and_eq_true] at hsz;obtain ⟨places,hp1,hp2⟩:=IX hsz.1;cases hlaid:laid (jm (Env.of P) fs) (z.cells.map .d) parts with
          | none=>rw [hlaid] at hx;simp at hx
          | some cs=>
            rw [hlaid] at hx;simp only [Option.some.injEq] at hx;subst hx
            exact fin (fun i=>places.toArray[i]?) _ cs (fun i q hq=>by simpa using hp2 i q hq) hlaid hsz.2 (fun cells hc=>by
             simp only [Program.built,hi,hu',hzv,hp1];exact hc)
       case array n e=>
        cases hse:(Env.of P).size e with
        | none=>rw [hse] at hx;simp at hx
        | some sz=>
          rw [hse] at hx;simp only at hx;cases hok:dO (.d z) with
          | false=>rw [hok] at hx;simp at hx
          | true=>
            rw [hok] at hx;simp only [cond_true] at hx;obtain ⟨ie,_,hie,YX,_⟩:=wT hse;cases hlaid:laid (fun i=>some (i*sz,sz)) (z.cells.map .d) parts with
            | none=>rw [hlaid] at hx;simp at hx
            | some cs=>
              rw [hlaid] at hx;simp only [Option.some.injEq] at hx;subst hx
              exact fin (fun i=>some (i*ie.size,ie.size)) _ cs (fun i q hq=>by rw [YX];exact hq) hlaid hok (fun cells hc=>by
               simp only [Program.built,hi,hu',hzv,hie];exact hc)
theorem Bo {fs:Array Field} {f off n:Nat} (h:jm (Env.of P) fs f=some (off,n)) :
 ∃fl,fs[f]? = some fl∧(Env.of P).size fl.type=some n∧fl.offset=off:=by
 unfold jm at h;cases hf:fs[f]? with
 | none=>rw [hf] at h;simp at h
 | some fl=>
   rw [hf] at h;simp only at h;cases hn:(Env.of P).size fl.type with
   | none=>rw [hn] at h;simp at h
   | some m=>rw [hn] at h;simp at h;exact ⟨fl,rfl,by rw [hn,h.2],h.1⟩
theorem Bp {κ:bE} {φ:bP} {w:World} {s:cu} {a:Act} (F:aA κ φ w s a) {t f:Nat} {x:RV} {v:Value} {res:dz}
 (hx:oN (Env.of P) t x f=some res) (r:bJ κ φ s.O w.heap x v):Out P κ φ w s a res.val res.upd (Instr.fieldAt t v f):=by
 unfold oN at hx;cases hu:(Env.of P).und t with
 | none=>rw [hu] at hx;simp at hx
 | some d=>
   rw [hu] at hx;cases d<;>(try simp only at hx)<;>try (simp at hx;done)
   rename_i fs;cases hs:jm (Env.of P) fs f with
   | none=>rw [hs] at hx;simp at hx
   | some p=>
     obtain ⟨off,n⟩:=p;rw [hs] at hx;simp only at hx;obtain ⟨fl,h1,h2,h3⟩:=Bo hs;cases hb:Nat.ble 1 n with
     | false=>rw [hb] at hx;simp at hx
     | true=>
       rw [hb] at hx;simp only [cond_true] at hx;have hn:=Nat.le_of_ble_eq_true hb
       have hrun:∀b o,(Instr.fieldAt t (.pointer (some ⟨b,o,none⟩)) f).run P w = .ok (.pointer (some ⟨b,o+off,none⟩)) w:=by
        intro b o;simp only [Instr.fieldAt,Sem.run_bind,aL hu,Result.andThen_ok,h1,Instr.sureAddr,Sem.run_pure,fieldPlace,aY h2];rw [if_neg (by omega)];simp [gW,h3]
       cases x<;>(try simp only at hx)<;>try (simp at hx;done)
       case ptr i o=>
        injection hx with hx;subst hx;cases r with
        | ptr hφ=>exact Out.pure F (hrun _ _) (.ptr hφ)
       case gU i sz idx o=>
        injection hx with hx;subst hx;cases r with
        | gU hφ=>exact Out.pure F (hrun _ _) (by rw [Nat.add_assoc];exact .gU hφ)
       case bB y o=>
        injection hx with hx;subst hx;cases r with
        | bB g1 g2 g3 g4 g5=>exact Out.pure F (hrun _ _) (by rw [Nat.add_assoc];exact .bB g1 g2 g3 g4 g5)
theorem ng {w:World} {t z off:Nat} {cs:Array Value} (hz:(Env.of P).size t=some z) (hn:off+z≤cs.size) (h1:(Env.of P).isAgg t=false→z=1) :
 (part t cs off).run P w = .ok (if (Env.of P).isAgg t then .agg (cs.extract off (off+z)) else cs.getD off undef) w:=by
 simp only [part,Sem.run_bind,xw hz,Result.andThen_ok];cases e:(Env.of P).isAgg t with
 | true=>simp [aY hz]
 | false=>
   have:=h1 e;subst this
   have:off < cs.size:=by omega
   simp [this,Array.getD]
theorem Kh {κ:bE} {φ:bP} {w:World} {s:cu} {a:Act} (F:aA κ φ w s a) {t f:Nat} {x:RV} {v:Value} {res:dz}
 (hx:Bg (Env.of P) t x f=some res) (r:bJ κ φ s.O w.heap x v):Out P κ φ w s a res.val res.upd (Instr.field t v f):=by
 unfold Bg at hx;cases hu:(Env.of P).und t with
 | none=>rw [hu] at hx;simp at hx
 | some d=>
   rw [hu] at hx;cases d<;>(try simp only at hx)<;>try (simp at hx;done)
   rename_i fs;cases hf:fs[f]? with
   | none=>rw [hf] at hx;simp at hx
   | some fl=>
     rw [hf] at hx;simp only at hx;cases hz:(Env.of P).size fl.type with
     | none=>rw [hz] at hx;simp at hx
     | some z=>
       rw [hz] at hx;simp only at hx;cases x<;>(try simp only at hx)<;>try (simp at hx;done)
       case d y=>
        cases y<;>(try simp only at hx)<;>try (simp at hx;done)
        rename_i cs;cases hcut:cut (Env.of P) fl.type z cs fl.offset with
        | none=>rw [hcut] at hx;simp at hx
        | some y=>
          rw [hcut] at hx;simp only [Option.some.injEq] at hx;subst hx;cases r with
          | d hr=>
            cases hr with
            | agg hl hs hr=>
              rename_i vs;obtain ⟨c1,c2,c3⟩:=Bn hcut (o:=0) (c:=vs) (by omega) hs (fun j y v hy hv=>hr j y v hy (by simpa using hv));refine Out.pure F (v:=if (Env.of P).isAgg fl.type then .agg (vs.extract fl.offset (fl.offset+z)) else vs.getD fl.offset undef) ?_ (.d (by simpa using c1));simp only [Instr.field,Sem.run_bind,aL hu,Result.andThen_ok,hf,asAgg,Sem.run_pure];exact ng hz (by omega) c2
       case agg cs=>
        cases r with
        | agg hl hs hr=>
          rename_i vs;cases hle:Nat.ble (fl.offset+z) cs.length with
          | false=>rw [hle] at hx;simp at hx
          | true=>
            have hle':=Nat.le_of_ble_eq_true hle;rw [hle] at hx;simp only [cond_true] at hx;cases ha:(Env.of P).isAgg fl.type with
            | true=>
              rw [ha] at hx;simp only [cond_true,Option.some.injEq] at hx;subst hx;refine Out.pure F (v:=.agg (vs.extract fl.offset (fl.offset+z))) ?_ (mZ (by simp;omega) (fun v hv=>?_) (fun k x v hx hv=>?_))
              ·simp only [Instr.field,Sem.run_bind,aL hu,Result.andThen_ok,hf,asAgg,Sem.run_pure]
               have:=ng (w:=w) (cs:=vs) hz (off:=fl.offset) (by omega) (by rw [ha];simp)
               rw [ha] at this;simpa using this
              ·obtain ⟨k,hk⟩:=Array.mem_iff_getElem?.1 hv;rw [Array.getElem?_extract] at hk;split at hk
               ·exact hs v (Array.mem_iff_getElem?.2 ⟨_,hk⟩)
               ·simp at hk
              ·rw [List.getElem?_take] at hx;split at hx
               ·rw [List.getElem?_drop] at hx;rw [Array.getElem?_extract] at hv;split at hv
                ·exact hr _ x v hx hv
                ·simp at hv
               ·simp at hx
            | false=>
              rw [ha] at hx;simp only [cond_false] at hx;cases h1' : Nat.beq z 1 with
              | false=>rw [h1'] at hx;simp at hx
              | true=>
                have:=cB h1';subst this
                rw [h1'] at hx;simp only [cond_true,Option.some.injEq] at hx;subst hx;have hlt:fl.offset < cs.length:=by omega
                have hlt2:fl.offset < vs.size:=by omega
                refine Out.pure F (v:=vs.getD fl.offset undef) ?_ (hr fl.offset _ _ (by simp [List.getD,hlt]) (by simp [Array.getD,hlt2]));simp only [Instr.field,Sem.run_bind,aL hu,Result.andThen_ok,hf,asAgg,Sem.run_pure]
                have:=ng (w:=w) (cs:=vs) hz (off:=fl.offset) (by omega) (fun _=>rfl)
                rw [ha] at this;simpa using this
theorem Ki {κ:bE} {φ:bP} {w:World} {s:cu} {a:Act} (F:aA κ φ w s a) {t:Nat} {x i:RV} {v iv:Value} {res:dz}
 (hx:Bh (Env.of P) t x i=some res) (hc:∀b∈res.conds,b=true) (r:bJ κ φ s.O w.heap x v) (ri:bJ κ φ s.O w.heap i iv) :
 Out P κ φ w s a res.val res.upd (Instr.index t v iv):=by
 unfold Bh at hx;cases i<;>(try simp only at hx)<;>try (simp at hx;done)
 rename_i i;cases i<;>(try simp only at hx)<;>try (simp at hx;done)
 rename_i k n;cases ri with
 | d Rc=>
 cases Rc;cases hu:(Env.of P).und t with
 | none=>rw [hu] at hx;simp at hx
 | some d=>
   rw [hu] at hx;cases d<;>(try simp only at hx)<;>try (simp at hx;done)
   case string=>
    cases x<;>(try simp only at hx)<;>try (simp at hx;done)
    rename_i y;cases y<;>(try simp only at hx)<;>try (simp at hx;done)
    rename_i str;injection hx with hx;subst hx;have hb:0≤n∧n < (str.length:Int):=by simpa using hc
    cases r with
    | d hr=>
      cases hr;have hlt:n.toNat < str.length:=by omega
      refine Out.pure F (v:=.int .u8 ((str.getD n.toNat 0).toNat:Int)) ?_ (.d (.int _ _));simp only [Instr.index,asIntOf,Sem.run_bind,Sem.run_pure,Result.andThen_ok,aL hu];rw [if_pos hb.1]
      have:(⟨str.toArray⟩:ByteArray)[n.toNat]? = some str[n.toNat]:=by
       have h2:n.toNat < (⟨str.toArray⟩:ByteArray).size:=by simpa [ByteArray.size] using hlt
       rw [getElem?_pos (⟨str.toArray⟩:ByteArray) n.toNat h2];rfl
      rw [this];simp [List.getD,hlt]
   case array len e=>
    cases x<;>(try simp only at hx)<;>try (simp at hx;done)
    case agg cs=>
     cases hz:(Env.of P).size e with
     | none=>rw [hz] at hx;simp at hx
     | some z=>
      rw [hz] at hx;simp only at hx
      have run:∀(vs:Array Value),(0≤n∧n < (len:Int))→(Instr.index t (.agg vs) (.int k n)).run P w=(part e vs (n.toNat*z)).run P w:=by
       intro vs hb;simp only [Instr.index,asIntOf,Sem.run_bind,Sem.run_pure,Result.andThen_ok,aL hu];rw [if_pos hb];simp only [Sem.run_bind,aY hz,Result.andThen_ok]
      cases r with
      | agg hl hs hr=>
        rename_i vs;cases hle:Nat.ble (n.toNat*z+z) cs.length with
        | false=>rw [hle] at hx;simp at hx
        | true=>
          have hle':=Nat.le_of_ble_eq_true hle;rw [hle] at hx;simp only [cond_true] at hx;cases ha:(Env.of P).isAgg e with
          | true=>
            rw [ha] at hx;simp only [cond_true,Option.some.injEq] at hx;subst hx;have hb:0≤n∧n < (len:Int):=by simpa using hc
            refine Out.pure F (v:=.agg (vs.extract (n.toNat*z) (n.toNat*z+z))) ?_ (mZ (by simp;omega) (fun v hv=>?_) (fun k x v hx hv=>?_))
            ·rw [run vs hb]
             have:=ng (w:=w) (cs:=vs) hz (off:=n.toNat*z) (by omega) (by rw [ha];simp)
             rw [ha] at this;simpa using this
            ·obtain ⟨k,hk⟩:=Array.mem_iff_getElem?.1 hv;rw [Array.getElem?_extract] at hk;split at hk
             ·exact hs v (Array.mem_iff_getElem?.2 ⟨_,hk⟩)
             ·simp at hk
            ·rw [List.getElem?_take] at hx;split at hx
             ·rw [List.getElem?_drop] at hx;rw [Array.getElem?_extract] at hv;split at hv
              ·exact hr _ x v hx hv
              ·simp at hv
             ·simp at hx
          | false=>
            rw [ha] at hx;simp only [cond_false] at hx;cases h1' : Nat.beq z 1 with
            | false=>rw [h1'] at hx;simp at hx
            | true=>
              have:=cB h1';subst this
              rw [h1'] at hx;simp only [cond_true,Option.some.injEq] at hx;subst hx;have hb:0≤n∧n < (len:Int):=by simpa using hc
              have hlt:n.toNat*1 < cs.length:=by omega
              have hlt2:n.toNat*1 < vs.size:=by omega
              refine Out.pure F (v:=vs.getD (n.toNat*1) undef) ?_ (hr (n.toNat*1) _ _ (by simp only [List.getD,List.getElem?_eq_getElem hlt];rfl) (by simp only [Array.getD,hlt2];simp));rw [run vs hb]
              have:=ng (w:=w) (cs:=vs) hz (off:=n.toNat*1) (by omega) (fun _=>rfl)
              rw [ha] at this;simpa using this
    rename_i y;cases y<;>(try simp only at hx)<;>try (simp at hx;done)
    rename_i cs;cases hz:(Env.of P).size e with
    | none=>rw [hz] at hx;simp at hx
    | some z=>
      rw [hz] at hx;simp only at hx;cases hcut:cut (Env.of P) e z cs (n.toNat*z) with
      | none=>rw [hcut] at hx;simp at hx
      | some y=>
        rw [hcut] at hx;simp only [Option.some.injEq] at hx;subst hx;have hb:0≤n∧n < (len:Int):=by simpa using hc
        cases r with
        | d hr=>
          cases hr with
          | agg hl hs hr=>
            rename_i vs;obtain ⟨c1,c2,c3⟩:=Bn hcut (o:=0) (c:=vs) (by omega) hs (fun j y v hy hv=>hr j y v hy (by simpa using hv));refine Out.pure F (v:=if (Env.of P).isAgg e then .agg (vs.extract (n.toNat*z) (n.toNat*z+z)) else vs.getD (n.toNat*z) undef) ?_ (.d (by simpa using c1));simp only [Instr.index,asIntOf,Sem.run_bind,Sem.run_pure,Result.andThen_ok,aL hu];rw [if_pos hb];simp only [Sem.run_bind,aY hz,Result.andThen_ok];exact ng hz (by omega) c2
theorem Fg {κ:bE} {φ:bP} {w:World} {s:cu} {a:Act} (F:aA κ φ w s a) {i:Nat} {x:RV} {v:Value} {res:dz}
 (hx:uI x i=some res) (r:bJ κ φ s.O w.heap x v):Out P κ φ w s a res.val res.upd (Instr.extract v i):=by
 unfold uI at hx;cases x<;>(try simp only at hx)<;>try (simp at hx;done)
 case bn vs=>
  cases hi:vs[i]? with
  | none=>rw [hi] at hx;simp at hx
  | some y=>
    rw [hi] at hx;simp only [Option.some.injEq] at hx;subst hx;cases r with
    | bn hl hr=>
      rename_i us;have hlt:=(List.getElem?_eq_some_iff.1 hi).1;have hlt2:i < us.size:=by omega
      have:us[i]? = some us[i]:=by simp [hlt2]
      exact Out.pure F (v:=us[i]) (by simp [Instr.extract,this]) (hr i y _ hi this)
 case d y=>
  cases y<;>(try simp only at hx)<;>try (simp at hx;done)
  rename_i vs;cases hi:vs[i]? with
  | none=>rw [hi] at hx;simp at hx
  | some y=>
    rw [hi] at hx;simp only [Option.some.injEq] at hx;subst hx;cases r with
    | d hr=>
      cases hr with
      | bn hl hr=>
        rename_i us;have hlt:=(List.getElem?_eq_some_iff.1 hi).1;have hlt2:i < us.size:=by omega
        have:us[i]? = some us[i]:=by simp [hlt2]
        exact Out.pure F (v:=us[i]) (by simp [Instr.extract,this]) (.d (hr i y _ hi this))
theorem Bq {κ:bE} {φ:bP} {w:World} {s:cu} {a:Act} (F:aA κ φ w s a) {t:Nat} {x i:RV} {v iv:Value} {res:dz}
 (hx:jr (Env.of P) s.O t x i=some res) (hc:∀b∈res.conds,b=true) (r:bJ κ φ s.O w.heap x v) (ri:bJ κ φ s.O w.heap i iv) :
 Out P κ φ w s a res.val res.upd (Instr.indexAt t v iv):=by
 unfold jr at hx;cases i<;>(try simp only at hx)<;>try (simp at hx;done)
 rename_i i;cases i<;>(try simp only at hx)<;>try (simp at hx;done)
 rename_i k n;cases ri with
 | d Rc=>
 cases Rc;cases hu:(Env.of P).und t with
 | none=>rw [hu] at hx;simp at hx
 | some d=>
   rw [hu] at hx;cases d<;>(try simp only at hx)<;>try (simp at hx;done)
   case slice e=>
    have hsl:∀(b o len cap z:Nat),(Env.of P).size e=some z→0≤n∧n < (len:Int)→(Instr.indexAt t (.slice (some ⟨b,o,none⟩) len cap) (.int k n)).run P w = .ok (.pointer (some ⟨b,o+n.toNat*z,none⟩)) w:=by
     intro b o len cap z hz hb;simp only [Instr.indexAt,asIntOf,Sem.run_bind,Sem.run_pure,Result.andThen_ok,aL hu];rw [if_pos hb];simp [aY hz,gW]
    cases x<;>(try simp only at hx)<;>try (simp at hx;done)
    case d y=>
     cases y<;>(try simp only at hx)<;>try (simp at hx;done)
     rename_i sz els full;cases hz:(Env.of P).size e with
     | none=>rw [hz] at hx;simp at hx
     | some z=>
       rw [hz] at hx;simp only at hx;cases hb:Nat.beq sz z with
       | false=>rw [hb] at hx;simp at hx
       | true=>
         have:=cB hb;subst this
         rw [hb] at hx;simp only [cond_true,Option.some.injEq] at hx;subst hx;have hn:0≤n∧n < (els.length:Int):=by simpa using hc
         cases r with
         | d hr=>
           cases hr with
           | iU hf=>simp at hn;omega
           | aC hκ hb hf hcp hs hz' hr'=>
             rename_i b off cap c ty fz;have hlt:n.toNat < els.length:=by omega
             have hxi:els[n.toNat]? = some (els.getD n.toNat .aG):=by simp [List.getD,hlt]
             have hel:EL κ w.heap c off sz els:=⟨hz',by have:=Nat.mul_le_mul_right sz hcp;omega,hr'⟩;obtain ⟨e1,e2,e3,e4⟩:=xD hel hxi;exact Out.pure F (hsl _ _ _ _ _ hz hn) (by have:=bJ.bB (φ:=φ) (O:=s.O) (x:=els.getD n.toNat .aG) (off:=0) (o:=off+n.toNat*sz) hκ hb (by omega) e3 e4;simpa using this)
    case own j sz=>
     have fin:∀(els:List DV),((∃ty,s.O j=some (.arr ty sz els))∨s.O j=some (.jL sz els))→(Env.of P).size e=some sz→(0≤n∧n < (els.length:Int))→
      Out P κ φ w s a (.gU j sz n.toNat 0) [] (Instr.indexAt t v (.int k n)):=by
      intro els hO hz hn;have hso:=kr hO (F.objs j) r;cases r with
      | own hφ hb hcap hlc hlen=>
        have hl:=hlen els.length (by rcases hO with ⟨_,e⟩ | e<;>rw [e]<;>rfl)
        subst hl;exact Out.pure F (hsl _ _ _ _ _ hz hn) (by have:=bJ.gU (κ:=κ) (O:=s.O) (h:=w.heap) (sz:=sz) (idx:=n.toNat) (off:=0) hφ;simpa using this)
      | gL hφ=>
        obtain ⟨base,cap,e1,_⟩:=hso;injection e1 with e1 e2 e3;omega
     cases hO:s.O j with
     | none=>rw [hO] at hx;simp at hx
     | some p=>
       rw [hO] at hx;cases hz:(Env.of P).size e with
       | none=>rw [hz] at hx;cases p<;>simp at hx
       | some z=>
         rw [hz] at hx;cases p<;>(try simp only at hx)<;>try (simp at hx;done)
         all_goals
          rename_i sz' els;cases hb:(Nat.beq sz' sz&&Nat.beq sz z) with
          | false=>rw [hb] at hx;simp at hx
          | true=>
            rw [hb] at hx;simp only [cond_true,Option.some.injEq] at hx;subst hx;simp only [Bool.and_eq_true] at hb
            have:=cB hb.1;subst this
            have:=cB hb.2;subst this
            exact fin els (by simp [hO]) hz (by simpa using hc)
    case sub j sz off len=>
     cases hz:(Env.of P).size e with
     | none=>rw [hz] at hx;simp at hx
     | some z=>
       rw [hz] at hx;simp only at hx;cases hb:Nat.beq sz z with
       | false=>rw [hb] at hx;simp at hx
       | true=>
         have:=cB hb;subst this
         rw [hb] at hx;simp only [cond_true,Option.some.injEq] at hx;subst hx;have hn:0≤n∧n < (len:Int):=by simpa using hc
         cases r with
         | sub hφ hb hcap hlc=>
           exact Out.pure F (hsl _ _ _ _ _ hz hn) (by have:=bJ.gU (κ:=κ) (O:=s.O) (h:=w.heap) (sz:=sz) (idx:=off+n.toNat) (off:=0) hφ;simpa [Nat.add_mul] using this)
         | oH hφ=>simp at hn;omega
   case array len e=>
    cases x<;>(try simp only at hx)<;>try (simp at hx;done)
    rename_i j off
    have hsl:∀(b o z:Nat),(Env.of P).size e=some z→0≤n∧n < (len:Int)→(Instr.indexAt t (.pointer (some ⟨b,o,none⟩)) (.int k n)).run P w = .ok (.pointer (some ⟨b,o+n.toNat*z,none⟩)) w:=by
     intro b o z hz hb;simp only [Instr.indexAt,asIntOf,Sem.run_bind,Sem.run_pure,Result.andThen_ok,aL hu,Instr.sureAddr];rw [if_pos hb];simp [aY hz,gW]
    cases r with
    | ptr hφ=>
    cases hO:s.O j with
    | none=>rw [hO] at hx;simp at hx
    | some p=>
      rw [hO] at hx;cases hz:(Env.of P).size e with
      | none=>rw [hz] at hx;cases p<;>simp at hx
      | some z=>
        rw [hz] at hx;cases p<;>(try simp only at hx)<;>try (simp at hx;done)
        case arr ty sz els=>
         cases hb:(Nat.beq sz z&&Nat.beq off 0) with
         | false=>rw [hb] at hx;simp at hx
         | true=>
           rw [hb] at hx;simp only [cond_true,Option.some.injEq] at hx;subst hx;simp only [Bool.and_eq_true] at hb
           have:=cB hb.1;subst this
           have:=cB hb.2;subst this
           exact Out.pure F (hsl _ _ _ hz (by simpa using hc)) (by have:=bJ.gU (κ:=κ) (O:=s.O) (h:=w.heap) (sz:=sz) (idx:=n.toNat) (off:=0) hφ;simpa using this)
        case box ty cs=>
         injection hx with hx;subst hx;exact Out.pure F (hsl _ _ _ hz (by simpa using hc)) (.ptr hφ)
theorem Kj {O0:Tab}:∀{κ:bE} {φ:bP} {w:World} {s:cu} {a:Act} (_:aA κ φ w s a) (_:ku O0 s.O) {xs:List (Nat×RV)} {vs:List (Nat×Value)} {ys:List (Nat×DV)}
 {u:List (Nat×av)} {c:List Bool} (_:oD O0 xs=some (ys,u,c)) (_:∀b∈c,b=true) (_:vs.length=xs.length)
 (_:∀(i:Nat) (x:Nat×RV) (v:Nat×Value),xs[i]? = some x→vs[i]? = some v→x.1=v.1∧bJ κ φ s.O w.heap x.2 v.2),
 ∃κ',aA κ' φ w { s with O:=aX s.O u } a∧dS κ φ s.O w.heap κ' φ (aX s.O u) w.heap∧Fr κ w κ' w∧
  ys.length=xs.length∧∀(i:Nat) (y:Nat×DV) (v:Nat×Value),ys[i]? = some y→vs[i]? = some v→y.1=v.1∧DR κ' w.heap y.2 v.2:=by
 intro κ φ w s a F hf xs;induction xs generalizing κ s with
 | nil=>
   intro vs ys u c hx _ _ _;simp only [oD,Option.some.injEq,Prod.mk.injEq] at hx;obtain ⟨rfl,rfl,rfl⟩:=hx;exact ⟨κ,F,dS.refl _ _ _ _,Fr.refl _ _,rfl,by simp⟩
 | cons x xs ih=>
   intro vs ys u c hx hc hl hr;obtain ⟨i0,x⟩:=x;simp only [oD] at hx;cases h1:sI O0 x with
   | none=>rw [h1] at hx;simp at hx
   | some p1=>
     obtain ⟨y,u1,c1⟩:=p1;cases h2:oD O0 xs with
     | none=>rw [h1,h2] at hx;simp at hx
     | some p2=>
       obtain ⟨l,u2,c2⟩:=p2;rw [h1,h2] at hx;simp only [Option.some.injEq,Prod.mk.injEq] at hx;obtain ⟨rfl,rfl,rfl⟩:=hx;cases vs with
       | nil=>simp at hl
       | cons v vs=>
         obtain ⟨e0,r0⟩:=hr 0 (i0,x) v rfl rfl;obtain ⟨κ1,F1,M1,R1,f1,d1⟩:=Bl F hf h1 (fun b hb=>hc b (by simp [hb])) r0
         obtain ⟨κ2,F2,M2,R2,l2,d2⟩:=ih F1 f1 h2 (fun b hb=>hc b (by simp [hb])) (vs:=vs) (by simpa using hl)
          (fun i x' v' hx' hv'=>⟨(hr (i+1) x' v' (by simpa using hx') (by simpa using hv')).1,(hr (i+1) x' v' (by simpa using hx') (by simpa using hv')).2.mono M1⟩)
         refine ⟨κ2,?_,?_,R1.trans R2,by simp [l2],?_⟩
         ·rw [bL];exact F2
         ·rw [bL];exact M1.trans M2
         ·intro i y' v' hy' hv';cases i with
          | zero=>simp at hy' hv';subst hy';subst hv';exact ⟨e0,d1.mono M2.dN⟩
          | succ i=>exact d2 i y' v' (by simpa using hy') (by simpa using hv')
theorem xI (sz:Nat):∀(k:Nat) (ps:List (Nat×DV)) (els:List DV),nR sz k ps=some els→els.length=ps.length∧
 ∀(i:Nat) (x:DV),els[i]? = some x→ps[i]? = some (k+i,x)∧x.cells.length=sz∧∀y∈x.cells,y.iD=true
 | k,[],els,h=>by simp [nR] at h;subst h;simp
 | k,(i0,x)::ps,els,h=>by
   simp only [nR] at h;cases hg:(Nat.beq i0 k&&Nat.beq x.cells.length sz&&gJ x.cells) with
   | false=>rw [hg] at h;simp at h
   | true=>
     rw [hg] at h;simp only [cond_true] at h;simp only [Bool.and_eq_true] at hg
     have:=cB hg.1.1;subst this
     cases hr:nR sz (i0+1) ps with
     | none=>rw [hr] at h;simp at h
     | some l=>
       rw [hr] at h;simp at h;subst h;obtain ⟨g1,g2⟩:=xI sz (i0+1) ps l hr;refine ⟨by simp [g1],fun i y hy=>?_⟩;cases i with
       | zero=>simp at hy;subst hy;exact ⟨by simp,cB hg.1.2,gX hg.2⟩
       | succ i=>
         obtain ⟨q1,q2⟩:=g2 i y (by simpa using hy);refine ⟨?_,q2⟩;simp only [List.getElem?_cons_succ,q1];congr 2;omega
theorem IY (c:Array Value) (o:Nat) (vs us:List Value) (h:o+vs.length+us.length≤c.size):eP (eP c o vs) (o+vs.length) us=eP c o (vs++us):=by
 have h1:=dV c o vs (by omega);apply Array.ext_getElem?;intro j;rw [iE _ _ _ (by omega),iE _ _ _ (by omega),iE _ _ _ (by simp;omega)];by_cases k1:j < o
 ·rw [if_pos (by omega),if_pos k1,if_pos k1]
 ·by_cases k2:j < o+vs.length
  ·rw [if_pos k2,if_neg k1,if_pos k2,if_neg k1,if_pos (by simp;omega),List.getElem?_append_left (by omega)]
  ·rw [if_neg k2,if_neg k1,if_neg k2,if_neg k1];by_cases k3:j < o+vs.length+us.length
   ·rw [if_pos k3,if_pos (by simp;omega),List.getElem?_append_right (by omega)];congr 1;omega
   ·rw [if_neg k3,if_neg (by simp;omega)]
theorem xJ (sz:Nat):∀(pv:List (Nat×Value)) (k:Nat) (c:Array Value),(∀(i:Nat) (q:Nat×Value),pv[i]? = some q→q.1=k+i∧q.2.cells.size=sz)→(k+pv.length)*sz≤c.size→
 Instr.fill (fun i=>some (i*sz,sz)) c pv=some (eP c (k*sz) (pv.flatMap fun q=>q.2.cells.toList))
 | [],k,c,_,_=>by simp [Instr.fill,eP,splice]
 | (i,v)::pv,k,c,h,hc=>by
   obtain ⟨e1,e2⟩:=h 0 (i,v) rfl;simp only [Nat.add_zero] at e1 e2;subst e1;have hc1:(i+1+pv.length)*sz≤c.size:=by simp only [List.length_cons] at hc;rw [show i+1+pv.length=i+(pv.length+1) by omega];exact hc
   have Rh:(i+1+pv.length)*sz=i*sz+sz+pv.length*sz:=by rw [Nat.add_mul,Nat.add_mul,Nat.one_mul]
   rw [zQ rfl e2 (by omega)];have hvl:v.cells.toList.length=sz:=by simpa using e2
   rw [xJ sz pv (i+1) _ (fun j q hq=>by
    obtain ⟨g1,g2⟩:=h (j+1) q (by simpa using hq);exact ⟨by omega,g2⟩) (by rw [dV _ _ _ (by omega)];exact hc1)]
   have hfl:(pv.flatMap fun q=>q.2.cells.toList).length=pv.length*sz:=by
    have:∀(l:List (Nat×Value)),(∀q∈l,q.2.cells.size=sz)→(l.flatMap fun q=>q.2.cells.toList).length=l.length*sz:=by
     intro l;induction l with
     | nil=>intro _;simp
     | cons q l ih=>
       intro hq;have h1:=ih (fun q' hq'=>hq q' (by simp [hq']));have h2:=hq q (by simp);simp only [List.flatMap_cons,List.length_append,h1,List.length_cons,Nat.add_mul,Array.length_toList,h2];omega
    refine this pv (fun q hq=>?_);obtain ⟨j,hj⟩:=List.mem_iff_getElem?.1 hq;exact (h (j+1) q (by simpa using hj)).2
   congr 1
   have:=IY c (i*sz) v.cells.toList (pv.flatMap fun q=>q.2.cells.toList) (by omega)
   rw [hvl] at this;rw [show (i+1)*sz=i*sz+sz by rw [Nat.add_mul];omega,this];simp
theorem flat_get {α β:Type} {f:α→List β} {sz:Nat}:∀(l:List α),(∀x∈l,(f x).length=sz)→(l.flatMap f).length=l.length*sz∧
 ∀(i:Nat) (x:α) (j:Nat),l[i]? = some x→j < sz→(l.flatMap f)[i*sz+j]? = (f x)[j]?
 | [],_=>by simp
 | y::l,h=>by
   obtain ⟨h1,h2⟩:=flat_get l (fun x hx=>h x (by simp [hx]));have hy:=h y (by simp);refine ⟨by simp only [List.flatMap_cons,List.length_append,h1,hy,List.length_cons,Nat.add_mul];omega,fun i x j hx hj=>?_⟩;cases i with
   | zero=>simp at hx;subst hx;simp only [List.flatMap_cons,Nat.zero_mul,Nat.zero_add];rw [List.getElem?_append_left (by omega)]
   | succ i=>
     simp only [List.flatMap_cons];rw [List.getElem?_append_right (by rw [hy,Nat.add_mul];omega),hy,←h2 i x j (by simpa using hx) hj];congr 1;rw [Nat.add_mul];omega
theorem Oi {κ:bE} {h:Heap} {sz:Nat} {els:List DV} {vs:List Value} (hl:vs.length=els.length) (hok:xq sz els)
 (hr:∀(i:Nat) (x:DV) (v:Value),els[i]? = some x→vs[i]? = some v→DR κ h x v) {rest:List Value} :
 EL κ h ((vs.flatMap fun v=>v.cells.toList)++rest).toArray 0 sz els∧(vs.flatMap fun v=>v.cells.toList).length=els.length*sz:=by
 have hlen:∀v∈vs,v.cells.toList.length=sz:=fun v hv=>by
  obtain ⟨i,hi⟩:=List.mem_iff_getElem?.1 hv;have hlt:=(List.getElem?_eq_some_iff.1 hi).1;have hlt2:i < els.length:=by omega
  have hx:els[i]? = some els[i]:=by simp [hlt2]
  have:=(hr i _ v hx hi).cells.1
  have h2:=(hok els[i] (by simp)).1;simp;omega
 obtain ⟨f1,f2⟩:=flat_get (f:=fun v:Value=>v.cells.toList) vs hlen;refine ⟨⟨hok,by simp only [List.size_toArray,List.length_append,f1,hl];omega,fun i x j y v hx hy hv=>?_⟩,by rw [f1,hl]⟩;have hlt:=(List.getElem?_eq_some_iff.1 hx).1;have hj:j < sz:=by have:=(List.getElem?_eq_some_iff.1 hy).1;have:=(hok x (List.mem_iff_getElem?.2 ⟨i,hx⟩)).1;omega
 have hlt2:i < vs.length:=by omega
 have hvi:vs[i]? = some vs[i]:=by simp [hlt2]
 have hle:=Nat.mul_le_mul_right sz (show i+1≤vs.length from hlt2)
 rw [Nat.add_mul] at hle;simp only [Nat.zero_add,List.getElem?_toArray] at hv;rw [List.getElem?_append_left (by rw [f1];omega),f2 i vs[i] j hvi hj] at hv;exact (hr i x vs[i] hx hvi).cells.2 j y v hy (by simpa using hv)
theorem y9 {κ:bE} {φ:bP} {w:World} {s:cu} {a:Act} (F:aA κ φ w s a) {sl t len:Nat} {parts:List (Nat×RV)} {pv:Array (Nat×Value)} {res:dz}
 (hx:iN (Env.of P) s.O sl t len parts=some res) (hc:∀b∈res.conds,b=true) (hl:pv.size=parts.length)
 (hr:∀(k:Nat) (p:Nat×RV) (q:Nat×Value),parts[k]? = some p→pv[k]? = some q→p.1=q.1∧bJ κ φ s.O w.heap p.2 q.2) :
 Out P κ φ w s a res.val res.upd (Instr.buildSlice t len pv):=by
 unfold iN at hx;cases hO:s.O sl with
 | some p=>rw [hO] at hx;simp at hx
 | none=>
   rw [hO] at hx;cases hu:(Env.of P).und t with
   | none=>rw [hu] at hx;simp at hx
   | some d=>
     rw [hu] at hx;cases d<;>(try simp only at hx)<;>try (simp at hx;done)
     rename_i e;cases hz:(Env.of P).size e with
     | none=>rw [hz] at hx;simp at hx
     | some sz=>
       cases Dk:(Env.of P).zero e with
       | none=>rw [hz,Dk] at hx;simp at hx
       | some zd=>
         rw [hz,Dk] at hx;simp only at hx;cases ht:oD s.O parts with
         | none=>rw [ht] at hx;simp at hx
         | some p3=>
           obtain ⟨ps,u,c⟩:=p3;rw [ht] at hx;simp only at hx;cases hg:(Nat.beq ps.length len&&Nat.ble 1 sz&&Nat.ble (len*sz) 1000000&&(u.all fun p=>!(Nat.beq p.1 sl))) with
           | false=>rw [hg] at hx;simp at hx
           | true=>
             rw [hg] at hx;simp only [cond_true] at hx;simp only [Bool.and_eq_true] at hg;obtain ⟨⟨⟨g1,g2⟩,g3⟩,g4⟩:=hg;have g1:=cB g1;have g2:=Nat.le_of_ble_eq_true g2;have g3:=Nat.le_of_ble_eq_true g3;cases hp:nR sz 0 ps with
             | none=>rw [hp] at hx;simp at hx
             | some els=>
               rw [hp] at hx;simp only [Option.some.injEq] at hx;subst hx;obtain ⟨κ1,F1,M1,R1,l1,d1⟩:=Kj F (ku.refl _) ht hc (vs:=pv.toList) (by simpa using hl) (fun i x v hx hv=>hr i x v hx (by simpa using hv));obtain ⟨p1,p2⟩:=xI sz 0 ps els hp;have Qu:aX s.O u sl=none:=by rw [rO u s.O g4];exact hO
               obtain ⟨zv,hzv,_⟩:=fC Dk w;have Qv:pv.toList.length=els.length:=by simp;omega
               have DF:∀B:Array Value,B.size=len*sz→Instr.fill (fun i=>some (i*sz,sz)) B pv.toList=some (eP B 0 (pv.toList.flatMap fun q=>q.2.cells.toList)):=by
                intro B hB
                have:=xJ sz pv.toList 0 B (fun i q hq=>by
                 have hlt:=(List.getElem?_eq_some_iff.1 hq).1;have hlt2:i < els.length:=by omega
                 have hxi:els[i]? = some els[i]:=by simp [hlt2]
                 obtain ⟨q1,q2,q3⟩:=p2 i _ hxi;obtain ⟨e1,e2⟩:=d1 i _ q q1 hq;exact ⟨by simp at e1;omega,by have:=e2.cells.1;simp only at this;omega⟩) (by rw [hB];simp only [Nat.zero_add,Qv,p1,g1];exact Nat.le_refl _)
                simpa using this
               have zO:EL κ1 w.heap (((pv.toList.map (·.2)).flatMap fun v=>v.cells.toList)++([]:List Value)).toArray 0 sz els∧((pv.toList.map (·.2)).flatMap fun v=>v.cells.toList).length=els.length*sz:=
                Oi (κ:=κ1) (h:=w.heap) (vs:=pv.toList.map (·.2)) (by simpa using Qv) (fun x hx=>by
                 obtain ⟨i,hi⟩:=List.mem_iff_getElem?.1 hx;exact (p2 i x hi).2) (fun i x v hx hv=>by
                 obtain ⟨q1,_⟩:=p2 i x hx;simp only [List.getElem?_map] at hv;cases hq:pv.toList[i]? with
                 | none=>rw [hq] at hv;simp at hv
                 | some q=>rw [hq] at hv;simp at hv;subst hv;exact (d1 i _ q q1 hq).2)
               rw [List.flatMap_map] at zO
               have hfull:∀B:Array Value,B.size=len*sz→eP B 0 (pv.toList.flatMap fun q=>q.2.cells.toList)=(pv.toList.flatMap fun q=>q.2.cells.toList).toArray:=by
                intro B hB;have ni:(pv.toList.flatMap fun q=>q.2.cells.toList).length=len*sz:=by rw [zO.2,p1,g1]
                simp only [eP,splice,List.take_zero,List.nil_append,Nat.zero_add];rw [List.drop_eq_nil_of_le (by rw [ni,Array.length_toList,hB];exact Nat.le_refl _)];simp
               have hrun:(Instr.buildSlice t len pv).run P w = .ok (.slice (some ⟨w.heap.size,0,none⟩) len len) { w with heap:=w.heap.push (.cells (pv.toList.flatMap fun q=>q.2.cells.toList).toArray e (0,0)) }:=by
                simp only [Instr.buildSlice,Sem.run_bind,aL hu,Result.andThen_ok,aY hz]
                rw [if_neg (show ¬(len*sz > 2 ^ 24) by have:(2:Nat) ^ 24=16777216:=by decide
                                                       omega)]
                by_cases h0:len*sz=0
                ·rw [if_pos h0];simp only [Sem.run_bind,Sem.run_pure,Result.andThen_ok];rw [DF _ (by simp),hfull _ (by simp)];simp [newRow]
                ·rw [if_neg h0];simp only [Sem.run_bind,hzv,Sem.run_pure,Result.andThen_ok];rw [DF _ (by simp),hfull _ (by simp)];simp [newRow]
               have hcs:(pv.toList.flatMap fun q=>q.2.cells.toList).toArray.size=len*sz:=by simp only [List.size_toArray];rw [zO.2,p1,g1]
               obtain ⟨q1,q2,q3⟩:=F1.alloc (i:=sl) (p:=.arr e sz els) (o:=.cells (pv.toList.flatMap fun q=>q.2.cells.toList).toArray e (0,0))
                (w':={ w with heap:=w.heap.push (.cells (pv.toList.flatMap fun q=>q.2.cells.toList).toArray e (0,0)) }) rfl Qu
                (fun M=>.inr ⟨_,_,(0,0),aS _ _ _,cZ _ _ _,aW _ _,rM _,by have:=zO.1.mono M.dN;simpa using this⟩)
               refine ⟨_,_,_,iG φ sl (.at w.heap.size),hrun,?_,?_,R1.trans q3,by simp only [bL];exact M1.kp.trans q2.kp⟩
               ·simp only [bL];exact q1
               ·simp only [bL]
                exact .own (aS _ _ _) (aW _ _) (by rw [hcs];exact Nat.le_refl _) (Nat.le_refl _) (fun n hn=>by
                 have:av.dB (bF (aX s.O u) sl (some (.arr e sz els)) sl)=some n:=hn
                 rw [bN] at this;simp [av.dB] at this;omega)
def kD (κ:bE) (h:Heap) (X:Array Value) (sz:Nat) (els:List DV):Prop:=
 X.size=els.length*sz∧(∀v∈X,v.oneCell=true)∧Ri sz els∧
 ∀(i:Nat) (x:DV) (j:Nat) (y:DV) (v:Value),els[i]? = some x→x.cells[j]? = some y→X[i*sz+j]? = some v→DR κ h y v
where Ri (sz:Nat) (els:List DV):Prop:=xq sz els
theorem EL.row {κ:bE} {h:Heap} {c:Array Value} {off sz:Nat} {els:List DV} (e:EL κ h c off sz els) (hsz:1≤sz) :
 kD κ h (c.extract off (off+els.length*sz)) sz els:=by
 obtain ⟨e1,e2,e3⟩:=e;have hsize:(c.extract off (off+els.length*sz)).size=els.length*sz:=by simp;omega
 refine ⟨hsize,fun v hv=>?_,e1,fun i x j y v hx hy hv=>?_⟩
 ·obtain ⟨k,hk⟩:=Array.mem_iff_getElem?.1 hv;have hlt:=(Array.getElem?_eq_some_iff.1 hk).1;rw [hsize] at hlt;have hq:k / sz < els.length:=Nat.div_lt_of_lt_mul (by rw [Nat.mul_comm];exact hlt);have hx:els[k / sz]? = some els[k / sz]:=by simp [hq]
  have hok:=e1 els[k / sz] (by simp);have hm:k % sz < els[k / sz].cells.length:=by rw [hok.1];exact Nat.mod_lt _ (by omega)
  have hy:els[k / sz].cells[k % sz]? = some els[k / sz].cells[k % sz]:=by simp [hm]
  rw [Array.getElem?_extract] at hk;split at hk
  ·have hdm:=Nat.div_add_mod k sz;rw [Nat.mul_comm] at hdm;refine (e3 (k / sz) _ (k % sz) _ v hx hy ?_).oneCell (hok.2 _ (by simp));rw [←hk];congr 1;omega
  ·simp at hk
 ·refine e3 i x j y v hx hy ?_;rw [Array.getElem?_extract] at hv;split at hv
  ·rw [Nat.add_assoc];exact hv
  ·simp at hv
theorem kD.nil {κ:bE} {h:Heap} {sz:Nat}:kD κ h #[] sz []:=⟨by simp,by simp,by intro x hx;simp at hx,by simp⟩
theorem GZ (s:List UInt8) (i:Nat) (x:DV) (h:(jq s)[i]? = some x):∃b,s[i]? = some b∧x = .int .u8 b.toNat:=by
 simp only [jq,List.getElem?_map] at h;cases e:s[i]? with
 | none=>rw [e] at h;simp at h
 | some b=>rw [e] at h;simp at h;exact ⟨b,rfl,h.symm⟩
theorem Kk (s:List UInt8):xq 1 (jq s):=by
 intro x hx;simp only [jq,List.mem_map] at hx;obtain ⟨b,_,rfl⟩:=hx;exact ⟨rfl,fun y hy=>by simp [DV.cells] at hy;subst hy;rfl⟩
theorem za {κ:bE} {φ:bP} {w:World} {s:cu} {a:Act} (F:aA κ φ w s a) {x:RV} {v:Value} {sz z:Nat} {els:List DV} {c:List Bool}
 (hx:mG s.O x=some (sz,els,c)) (hc:∀b∈c,b=true) (r:bJ κ φ s.O w.heap x v) (hz:(Nat.beq sz z||els.isEmpty)=true) (h1:1≤z) :
 ∃X,(∀w' : World,w'.heap=w.heap→(Builtin.lenOf v).run P w' = .ok els.length w'∧(Builtin.firstCells z els.length v).run P w' = .ok X w')∧kD κ w.heap X z els:=by
 have sl:y8 κ w.heap v sz els→∃X,(∀w' : World,w'.heap=w.heap→(Builtin.lenOf v).run P w' = .ok els.length w'∧(Builtin.firstCells z els.length v).run P w' = .ok X w')∧kD κ w.heap X z els:=by
  rintro ⟨base,cap,rfl,hcap,hs⟩
  by_cases he:els=[]
  ·subst he;refine ⟨#[],fun w' _=>⟨rfl,?_⟩,kD.nil⟩;cases base with
   | none=>rfl
   | some b=>simp [Builtin.firstCells,loadCells,loadCellsFrom]
  ·have hzz:sz=z:=by
    simp only [Bool.or_eq_true] at hz;rcases hz with hz | hz
    ·exact cB hz
    ·exact absurd (by simpa using hz) he
   subst hzz;rcases hs with hs | ⟨b,off,cc,ty,fz,rfl,hb,hel,hsz⟩
   ·exact absurd hs he
   ·exact ⟨_,fun w' hw=>⟨rfl,by simp only [Builtin.firstCells];exact dU (by rw [hw];exact hb) hel.2.1⟩,hel.row h1⟩
 by_cases hstr:∃str,x = .d (.str str)
 ·obtain ⟨str,rfl⟩:=hstr;simp only [mG,Option.some.injEq,Prod.mk.injEq] at hx;obtain ⟨rfl,rfl,rfl⟩:=hx;cases r with
  | d hr=>
    cases hr
    have hzz:1=z∨str=[]:=by
     simp only [Bool.or_eq_true] at hz;rcases hz with hz | hz
     ·exact .inl (cB hz)
     ·right;simpa [jq] using hz
    have hlen:(jq str).length=str.length:=by simp [jq]
    refine ⟨(str.toArray.map fun b=>Value.int .u8 b.toNat),fun w' _=>⟨by simp [Builtin.lenOf,hlen,ByteArray.size],?_⟩,?_⟩
    ·simp only [Builtin.firstCells,hlen]
     have:((⟨str.toArray⟩:ByteArray).extract 0 str.length).data=str.toArray:=by
      simp [ByteArray.data_extract]
     rw [this];rfl
    ·rcases hzz with rfl | rfl
     ·refine ⟨by simp [hlen],fun v hv=>?_,Kk str,fun i x j y v hx hy hv=>?_⟩
      ·simp only [Array.mem_map] at hv;obtain ⟨b,_,rfl⟩:=hv;rfl
      ·obtain ⟨b,hb,rfl⟩:=GZ str i x hx;cases j with
       | zero=>
         simp [DV.cells] at hy;subst hy;simp only [Nat.mul_one,Nat.add_zero,Array.getElem?_map,List.getElem?_toArray,hb,Option.map_some,Option.some.injEq] at hv;subst hv;exact .int _ _
       | succ j=>simp [DV.cells] at hy
     ·simpa [jq] using kD.nil
 ·have:mG s.O x=lu s.O x:=by
   unfold mG;split
   ·rename_i str;exact absurd ⟨_,rfl⟩ hstr
   ·rfl
  rw [this] at hx;exact sl (Dp F hx hc r)
theorem kD.mono {κ κ' : bE} {h h' : Heap} (hm:∀b,κ b = .dN→κ' b = .dN∧h'[b]? = h[b]?) {X:Array Value} {sz:Nat} {els:List DV} (r:kD κ h X sz els):kD κ' h' X sz els:=
 ⟨r.1,r.2.1,r.2.2.1,fun i x j y v hx hy hv=>(r.2.2.2 i x j y v hx hy hv).mono hm⟩
theorem Rj {κ:bE} {h:Heap} {c:Array Value} {sz:Nat} {els xs:List DV} {X:Array Value} (he:EL κ h c 0 sz els) (hX:kD κ h X sz xs)
 (hs:(els.length+xs.length)*sz≤c.size):EL κ h (eP c (els.length*sz) X.toList) 0 sz (els++xs):=by
 obtain ⟨e1,e2,e3⟩:=he;obtain ⟨x1,x2,x3,x4⟩:=hX;have hb:els.length*sz+X.toList.length≤c.size:=by rw [Nat.add_mul] at hs;simp;omega
 refine ⟨fun x hx=>?_,by rw [dV _ _ _ hb];simpa using hs,fun i x j y v hx hy hv=>?_⟩
 ·rcases List.mem_append.1 hx with hx | hx
  ·exact e1 x hx
  ·exact x3 x hx
 ·rw [iE _ _ _ hb] at hv;simp only [Nat.zero_add] at hv;by_cases hi:i < els.length
  ·rw [List.getElem?_append_left hi] at hx;have hj:j < sz:=by have:=(List.getElem?_eq_some_iff.1 hy).1;have:=(e1 x (List.mem_iff_getElem?.2 ⟨i,hx⟩)).1;omega
   have:=Nat.mul_le_mul_right sz (show i+1≤els.length from hi)
   rw [Nat.add_mul] at this;rw [if_pos (by omega)] at hv;exact e3 i x j y v hx hy (by simpa using hv)
  ·rw [List.getElem?_append_right (by omega)] at hx;have hj:j < sz:=by have:=(List.getElem?_eq_some_iff.1 hy).1;have:=(x3 x (List.mem_iff_getElem?.2 ⟨_,hx⟩)).1;omega
   have hlt:=(List.getElem?_eq_some_iff.1 hx).1;have hle:=Nat.mul_le_mul_right sz (show (i-els.length)+1≤xs.length from hlt)
   have Rh:i*sz=els.length*sz+(i-els.length)*sz:=by rw [←Nat.add_mul];congr 1;omega
   rw [Nat.add_mul] at hle;rw [if_neg (by omega),if_pos (by simp;omega)] at hv;refine x4 (i-els.length) x j y v hx hy ?_;rw [Array.getElem?_toList] at hv;rw [←hv];congr 1;omega
theorem Oj {κ:bE} {h:Heap} {sz:Nat} {els xs:List DV} {X Y R:Array Value} (hY:kD κ h Y sz els) (hX:kD κ h X sz xs) :
 EL κ h (Y++X++R) 0 sz (els++xs):=by
 obtain ⟨y1,y2,y3,y4⟩:=hY;obtain ⟨x1,x2,x3,x4⟩:=hX;refine ⟨fun x hx=>?_,by simp [y1,x1,Nat.add_mul],fun i x j y v hx hy hv=>?_⟩
 ·rcases List.mem_append.1 hx with hx | hx
  ·exact y3 x hx
  ·exact x3 x hx
 ·simp only [Nat.zero_add] at hv;by_cases hi:i < els.length
  ·rw [List.getElem?_append_left hi] at hx;have hj:j < sz:=by have:=(List.getElem?_eq_some_iff.1 hy).1;have:=(y3 x (List.mem_iff_getElem?.2 ⟨i,hx⟩)).1;omega
   have:=Nat.mul_le_mul_right sz (show i+1≤els.length from hi)
   rw [Nat.add_mul] at this;rw [Array.append_assoc,Array.getElem?_append_left (by omega)] at hv;exact y4 i x j y v hx hy hv
  ·rw [List.getElem?_append_right (by omega)] at hx;have hj:j < sz:=by have:=(List.getElem?_eq_some_iff.1 hy).1;have:=(x3 x (List.mem_iff_getElem?.2 ⟨_,hx⟩)).1;omega
   have hlt:=(List.getElem?_eq_some_iff.1 hx).1;have hle:=Nat.mul_le_mul_right sz (show (i-els.length)+1≤xs.length from hlt)
   have Rh:i*sz=els.length*sz+(i-els.length)*sz:=by rw [←Nat.add_mul];congr 1;omega
   rw [Nat.add_mul] at hle;rw [Array.append_assoc,Array.getElem?_append_right (by omega),Array.getElem?_append_left (by omega)] at hv;refine x4 (i-els.length) x j y v hx hy ?_;rw [←hv];congr 1;omega
theorem zR (n:Nat):∀(k c:Nat),c≤n→Builtin.growBy n k c≤2*n+768
 | 0,c,h=>by simp [Builtin.growBy];omega
 | k+1,c,h=>by
   simp only [Builtin.growBy];split
   ·omega
   ·rename_i hlt;by_cases h2:c+(c+768) / 4≤n
    ·exact zR n k _ h2
    ·have:Builtin.growBy n k (c+(c+768) / 4)=c+(c+768) / 4:=by
      cases k with
      | zero=>rfl
      | succ k=>simp only [Builtin.growBy];rw [if_pos (by omega)]
     rw [this];omega
theorem Fh (need cap:Nat) (h:cap < need):Builtin.nextslicecap need cap≤2*need+768:=by
 unfold Builtin.nextslicecap;split
 ·omega
 ·split
  ·omega
  ·exact zR need 4 cap (by omega)
theorem Kl {t z:Nat} (h:(Env.of P).bytes t=some z):∃i,P.info? t=some i∧i.bytes=z:=by
 simp only [Env.of] at h;cases e:P.info? t with
 | none=>rw [e] at h;simp at h
 | some i=>rw [e] at h;exact ⟨i,rfl,by simpa using h⟩
theorem gY {t z:Nat} (h:(Env.of P).bytes t=some z) (w:World):∃i,(typeInfo t).run P w = .ok i w∧i.bytes=z:=by
 obtain ⟨i,hi,rfl⟩:=Kl h;exact ⟨i,by simp [typeInfo,hi],rfl⟩
theorem V5:(2:Nat) ^ 38=274877906944:=by decide
theorem V6:(2:Nat) ^ 48=281474976710656:=by decide
theorem V7:IntKind.i64.max=9223372036854775807:=by decide
section
variable {w:World} {e z iO t t2 len n:Nat} {base:Option Addr} {cap:Nat} {vx:Value} {X:Array Value} {zS:TypeDesc}
 (hu:(Env.of P).und t=some (.slice e)) (hu2:(Env.of P).und t2=some zS) (hni:∀k,zS≠.int k) (hz:(Env.of P).size e=some z)
 (hl:(Builtin.lenOf vx).run P w = .ok n w) (hX:(Builtin.firstCells z n vx).run P w = .ok X w)
include hu hu2 hni hz hl hX
theorem kJ (hfit:len+n≤cap) (hb:base=none∨n=0∧X = #[]) :
 (Builtin.append_ #[t,t2] t #[.slice base len cap,vx]).run P w = .ok (.slice base (len+n) cap) w:=by
 simp only [Builtin.append_]
 rw [show (#[t,t2]:Array TypeId)[0]? = some t from rfl,show (#[t,t2]:Array TypeId)[1]? = some t2 from rfl,
  show (#[Value.slice base len cap,vx]:Array Value)[0]? = some (.slice base len cap) from rfl,show (#[Value.slice base len cap,vx]:Array Value)[1]? = some vx from rfl]
 have _:=hni;have _:=hX;simp only [Sem.run_bind,aL hu,Result.andThen_ok,aY hz,aL hu2,Sem.run_pure,Bool.false_eq_true,if_false,hl];rw [if_pos hfit];simp only [Bool.not_false,if_true,Sem.run_bind,hX,Result.andThen_ok];rcases hb with rfl | ⟨_,rfl⟩
 ·simp
 ·cases base<;>simp [storeCells]
theorem xK {b:Nat} {c:Array Value} {ty:TypeId} {fz:Nat×Nat} (hfit:len+n≤cap) (hb:w.heap[b]? = some (.cells c ty fz)) (hf:uE fz c.size)
 (hs:len*z+X.size≤c.size) (h1:∀v∈X,v.oneCell=true) :
 (Builtin.append_ #[t,t2] t #[.slice (some ⟨b,0,none⟩) len cap,vx]).run P w = .ok (.slice (some ⟨b,0,none⟩) (len+n) cap) (World.row w b (.cells (eP c (len*z) X.toList) ty fz)):=by
 simp only [Builtin.append_]
 rw [show (#[t,t2]:Array TypeId)[0]? = some t from rfl,show (#[t,t2]:Array TypeId)[1]? = some t2 from rfl,
  show (#[Value.slice (some ⟨b,0,none⟩) len cap,vx]:Array Value)[0]? = some (.slice (some ⟨b,0,none⟩) len cap) from rfl,show (#[Value.slice (some ⟨b,0,none⟩) len cap,vx]:Array Value)[1]? = some vx from rfl]
 have _:=hni;have _:=hX;simp only [Sem.run_bind,aL hu,Result.andThen_ok,aY hz,aL hu2,Sem.run_pure,Bool.false_eq_true,if_false,hl];rw [if_pos hfit]
 have:=dI (P:=P) b (len*z) ty fz X.toList 0 c w hb hf (by simpa using hs) (by simpa using h1)
 simp only [Bool.not_false,if_true,Sem.run_bind,hX,Result.andThen_ok,gW,Nat.zero_add];rw [this];simp
theorem run_append_grow {zv:Value} {Y:Array Value} (hby:(Env.of P).bytes e=some iO) (hb1:1≤iO) (hroom:(len+n)*iO≤2 ^ 38) (hfit:¬len+n≤cap)
 (hzv:(zeroValue e).run P { w with drawn:=w.drawn+1 } = .ok zv { w with drawn:=w.drawn+1 })
 (hX' : (Builtin.firstCells z n vx).run P { w with drawn:=w.drawn+1 } = .ok X { w with drawn:=w.drawn+1 })
 (hY:(Builtin.firstCells z len (.slice base len cap)).run P { w with drawn:=w.drawn+1 } = .ok Y { w with drawn:=w.drawn+1 }) :
 ∃newCap R,len+n≤newCap∧R.size=(newCap-(len+n))*zv.cells.size∧(Builtin.append_ #[t,t2] t #[.slice base len cap,vx]).run P w =
  .ok (.slice (some ⟨w.heap.size,0,none⟩) (len+n) newCap) { w with drawn:=w.drawn+1,heap:=w.heap.push (.cells (Y++X++R) e (0,0)) }:=by
 obtain ⟨ti,hti,DI⟩:=gY hby w;obtain ⟨ti',YZ,abl⟩:=gY hby { w with drawn:=w.drawn+1 };have hle:len+n≤(len+n)*iO:=Nat.le_mul_of_pos_right _ hb1;have p38:=V5;have V8:¬(((len+n:Nat):Int) > IntKind.i64.max):=by rw [V7];omega
 have hnext:=Fh (len+n) cap (by omega)
 have hnb:¬(Builtin.nextslicecap (len+n) cap*iO > 2 ^ 48):=by
  have h4:=Nat.mul_le_mul_right iO hnext
  have h5:(2*(len+n)+768)*iO≤770*((len+n)*iO):=by
   have:2*(len+n)+768≤770*(len+n):=by omega
   have:=Nat.mul_le_mul_right iO this
   rw [Nat.mul_assoc 770] at this;exact this
  rw [V6];omega
 refine ⟨(len+n)+w.tape w.drawn (.appendCap (len+n) cap e) % (2 ^ 63-(len+n)),Builtin.zeroCells zv.cells ((len+n)+w.tape w.drawn (.appendCap (len+n) cap e) % (2 ^ 63-(len+n))-(len+n)),by omega,by simp [Builtin.zeroCells],?_⟩;simp only [Builtin.append_]
 rw [show (#[t,t2]:Array TypeId)[0]? = some t from rfl,show (#[t,t2]:Array TypeId)[1]? = some t2 from rfl,
  show (#[Value.slice base len cap,vx]:Array Value)[0]? = some (.slice base len cap) from rfl,show (#[Value.slice base len cap,vx]:Array Value)[1]? = some vx from rfl]
 have _:=hni;have _:=hX;simp only [Sem.run_bind,aL hu,Result.andThen_ok,aY hz,aL hu2,Sem.run_pure,Bool.false_eq_true,if_false,hl];rw [if_neg hfit];simp only [Sem.run_bind,hti,Result.andThen_ok,DI];rw [if_neg (fun h=>V8 h.1)];simp only [Sem.run_bind,hti,Result.andThen_ok,DI];rw [if_neg hnb];simp only [Sem.run_bind,run_choose,Question.forced,Question.cut,Bool.false_eq_true,if_false,Result.andThen_ok,YZ,run_askRoom,hY,hX',Bool.not_false,if_true,hzv,newRow,run_newObj,Sem.run_pure]
end
theorem zT {e z:Nat} (h:mH (Env.of P) e z=true) (w:World):∃v,(zeroValue e).run P w = .ok v w∧v.cells.size=z:=by
 unfold mH at h;cases hz:(Env.of P).zero e with
 | none=>rw [hz] at h;simp at h
 | some x=>
   rw [hz] at h;obtain ⟨v,h1,h2⟩:=fC hz w;exact ⟨v,h1,by have:=(iI (κ:=fun _=>.kQ) (h:=#[]) h2).cells.1;have:=cB h;omega⟩
theorem vN {κ:bE} {φ:bP} {w:World} {s:cu} {a:Act} (F:aA κ φ w s a) {d e z iO t t2:Nat} {els xs:List DV} {base:Option Addr} {cap:Nat} {vx:Value} {X:Array Value} {zS:TypeDesc}
 (hd:s.O d=none) (hu:(Env.of P).und t=some (.slice e)) (hu2:(Env.of P).und t2=some zS) (hni:∀k,zS≠.int k) (hz:(Env.of P).size e=some z) (hby:(Env.of P).bytes e=some iO)
 (Dk:mH (Env.of P) e z=true) (h1:1≤z) (hb1:1≤iO)
 (hroom:(els.length+xs.length)*iO≤2 ^ 38) (hsl:y8 κ w.heap (.slice base els.length cap) z els)
 (hl:(Builtin.lenOf vx).run P w = .ok xs.length w) (hX:∀w' : World,w'.heap=w.heap→(Builtin.firstCells z xs.length vx).run P w' = .ok X w') (hrow:kD κ w.heap X z xs)
 (hmode:(cap=els.length∧(els=[]∨xs≠[]))∨∃b c fz i,base=some ⟨b,0,none⟩∧κ b = .own i∧i≠d∧s.O i=some .gone∧w.heap[b]? = some (.cells c e fz)∧uE fz c.size∧cap*z≤c.size∧EL κ w.heap c 0 z els) :
 Out P κ φ w s a (.own d z) [(d,.arr e z (els++xs))] (Builtin.append_ #[t,t2] t #[.slice base els.length cap,vx]):=by
 have hun:φ d = .un:=by have:=F.objs d;rw [hd] at this;exact this
 have hlen:(els++xs).length=els.length+xs.length:=by simp
 have grow:¬els.length+xs.length≤cap→Out P κ φ w s a (.own d z) [(d,.arr e z (els++xs))] (Builtin.append_ #[t,t2] t #[.slice base els.length cap,vx]):=by
  intro hfit;obtain ⟨zv,hzv,hzs⟩:=zT Dk { w with drawn:=w.drawn+1 }
  have Qw:∃Y,(Builtin.firstCells z els.length (.slice base els.length cap)).run P { w with drawn:=w.drawn+1 } = .ok Y { w with drawn:=w.drawn+1 }∧kD κ w.heap Y z els:=by
   obtain ⟨base',cap',e1,_,hs⟩:=hsl;injection e1 with e1 e2 e3;subst e1;by_cases he:els=[]
   ·subst he;refine ⟨#[],?_,kD.nil⟩;cases base with
    | none=>rfl
    | some b=>simp [Builtin.firstCells,loadCells,loadCellsFrom]
   ·rcases hs with hs | ⟨b,off,cc,ty,fz,rfl,hb,hel,hsz⟩
    ·exact absurd hs he
    ·exact ⟨_,by simp only [Builtin.firstCells];exact dU (w:={ w with drawn:=w.drawn+1 }) hb hel.2.1,hel.row h1⟩
  obtain ⟨Y,hY,Qx⟩:=Qw;obtain ⟨newCap,R,g1,g2,g3⟩:=run_append_grow (len:=els.length) (n:=xs.length) (cap:=cap) (base:=base) hu hu2 hni hz hl (hX w rfl) hby hb1 hroom hfit hzv (hX { w with drawn:=w.drawn+1 } rfl) hY
  have hsize:(Y++X++R).size=newCap*z:=by
   simp only [Array.size_append,Qx.1,hrow.1,g2,hzs];rw [←Nat.add_mul,←Nat.add_mul];congr 1;omega
  obtain ⟨q1,q2,q3⟩:=F.alloc (i:=d) (p:=.arr e z (els++xs)) (o:=.cells (Y++X++R) e (0,0)) (w':={ w with drawn:=w.drawn+1,heap:=w.heap.push (.cells (Y++X++R) e (0,0)) }) rfl hd
   (fun M=>.inr ⟨_,_,(0,0),aS _ _ _,cZ _ _ _,aW _ _,rM _,Oj (Qx.mono M.dN) (hrow.mono M.dN)⟩)
  refine ⟨_,_,_,iG φ d (.at w.heap.size),g3,q1,?_,q3,q2.kp⟩
  exact .own (aS _ _ _) (aW _ _) (by rw [hsize];exact Nat.le_refl _) g1 (fun n hn=>by
   have:av.dB (bF s.O d (some (.arr e z (els++xs))) d)=some n:=hn
   rw [bN] at this;simp [av.dB] at this;omega)
 rcases hmode with ⟨hcap,hor⟩ | ⟨b,c,fz,i,rfl,hκ,hid,DJ,hb,hfz,hcs,hel⟩
 ·by_cases hxs:xs=[]
  ·subst hxs;have he:els=[]:=by rcases hor with h | h;exact h;exact absurd rfl h
   subst he;simp only [List.length_nil] at hcap;subst hcap;have hX0:X = #[]:=Array.eq_empty_of_size_eq_zero (by have:=hrow.1;simpa using this);have hrun:=kJ (len:=0) (n:=0) (cap:=0) (base:=base) hu hu2 hni hz hl (hX w rfl) (Nat.le_refl _) (.inr ⟨rfl,hX0⟩)
   obtain ⟨q1,q2,q3⟩:=F.wG (i:=d) (p:=.arr e z ([]++[])) (κ':=κ) (φ':=iG φ d .nil) (w':=w) (Nat.le_refl _) (fun _ h=>h) (fun _ _ _ _ h=>h) (fun _ _ h=>h) (fun _ _ _ _=>rfl)
    (fun j hj=>lY _ _ hj) (fun h=>absurd hun h) (fun _ c _ fz hc=>⟨c,fz,hc,rfl⟩) (fun h=>absurd hun h) F.bnd.lt (fun M=>.inl ⟨aS _ _ _,rfl⟩)
   exact ⟨_,_,κ,iG φ d .nil,hrun,q1,.gL (aS _ _ _),q3,q2.kp⟩
  ·refine grow ?_
   have:0 < xs.length:=List.length_pos_iff.2 hxs
   omega
 ·by_cases hfit:els.length+xs.length≤cap
  ·have hle:=Nat.mul_le_mul_right z hfit;rw [Nat.add_mul] at hle;have NU:=hrow.1;have hrun:=xK (len:=els.length) (n:=xs.length) (cap:=cap) hu hu2 hni hz hl (hX w rfl) hfit hb hfz (by omega) hrow.2.1;have hsize:(eP c (els.length*z) X.toList).size=c.size:=dV _ _ _ (by simp;omega)
   obtain ⟨q1,q2,q3⟩:=F.wG (i:=d) (p:=.arr e z (els++xs)) (κ':=qL κ b (.own d)) (φ':=iG φ d (.at b)) (w':=World.row w b (.cells (eP c (els.length*z) X.toList) e fz))
    (by simp [World.row]) (fun x hx=>by rw [fZ _ _ (fun e=>by subst e;rw [hκ] at hx;cases hx)];exact hx)
    (fun x j hj hg hx=>by rw [fZ _ _ (fun e=>by subst e;rw [hκ] at hx;injection hx with hx;subst hx;exact hg DJ)];exact hx)
    (fun x _ hx=>by rw [fZ _ _ (fun e=>by subst e;rw [hκ] at hx;cases hx)];exact hx)
    (fun x hx _ hg=>iF _ _ (fun e=>by subst e;exact hg i hκ DJ))
    (fun j hj=>lY _ _ hj) (fun h=>absurd hun h)
    (fun x c0 Q9 Ra hc0=>by
      by_cases e:x=b
      ·subst e;rw [hb] at hc0;injection hc0 with hc0;injection hc0 with e1 e2 e3;subst e1;subst e2;exact ⟨_,_,dL hb,hsize⟩
      ·exact ⟨c0,Ra,by rw [iF _ _ e];exact hc0,rfl⟩)
    (fun h=>absurd hun h)
    (fun x hx=>by
      simp only [World.row,Array.size_setIfInBounds];by_cases e:x=b
      ·subst e;exact jv hb
      ·rw [fZ _ _ e] at hx;exact F.bnd.lt x hx)
    (fun M=>.inr ⟨b,_,fz,aS _ _ _,cZ _ _ _,dL hb,by rw [hsize];exact hfz,Rj (hel.mono M.dN) (hrow.mono M.dN) (by rw [Nat.add_mul];omega)⟩)
   refine ⟨_,_,_,iG φ d (.at b),hrun,q1,?_,q3,q2.kp⟩
   exact .own (aS _ _ _) (dL hb) (by rw [hsize];exact hcs) hfit (fun n hn=>by
    have:av.dB (bF s.O d (some (.arr e z (els++xs))) d)=some n:=hn
    rw [bN] at this;simp [av.dB] at this;omega)
  ·exact grow hfit
theorem IZ {κ:bE} {φ:bP} {w:World} {s:cu} {a:Act} (F:aA κ φ w s a) {sl t t2:Nat} {x y:RV} {v vx:Value} {zS:TypeDesc} {res:dz}
 (hx:mY (Env.of P) s.O sl t x y=some res) (hc:∀b∈res.conds,b=true) (hu2:(Env.of P).und t2=some zS) (hni:∀k,zS≠.int k)
 (r:bJ κ φ s.O w.heap x v) (r2:bJ κ φ s.O w.heap y vx):Out P κ φ w s a res.val res.upd (Builtin.append_ #[t,t2] t #[v,vx]):=by
 unfold mY at hx;cases hu:(Env.of P).und t with
 | none=>rw [hu] at hx;simp at hx
 | some dd=>
   rw [hu] at hx;cases dd<;>(try simp only at hx)<;>try (simp at hx;done)
   rename_i e;cases hz:(Env.of P).size e with
   | none=>rw [hz] at hx;simp at hx
   | some z=>
     cases hby:(Env.of P).bytes e with
     | none=>rw [hz,hby] at hx;simp at hx
     | some iO=>
       cases hsrc:mG s.O y with
       | none=>rw [hz,hby,hsrc] at hx;simp at hx
       | some p3=>
         obtain ⟨sx,xs,cx⟩:=p3;rw [hz,hby,hsrc] at hx;simp only at hx;cases hg:((Nat.beq sx z||xs.isEmpty)&&Nat.ble 1 z&&Nat.ble 1 iO&&mH (Env.of P) e z) with
         | false=>rw [hg] at hx;simp at hx
         | true=>
           rw [hg] at hx;simp only [cond_true] at hx;simp only [Bool.and_eq_true] at hg;obtain ⟨⟨⟨g1,g2⟩,g3⟩,g4⟩:=hg;have g2:=Nat.le_of_ble_eq_true g2;have g3:=Nat.le_of_ble_eq_true g3
           have src:(∀b∈cx,b=true)→∃X,(∀w' : World,w'.heap=w.heap→(Builtin.lenOf vx).run P w' = .ok xs.length w'∧(Builtin.firstCells z xs.length vx).run P w' = .ok X w')∧kD κ w.heap X z xs:=
            fun hcx=>za F hsrc hcx r2 g1 g2
           have own:∀(i d:Nat) (els:List DV) (base:Option Addr) (cap:Nat),i≠d→s.O d=none→φ i≠.un→(∀b∈cx,b=true)→(els.length+xs.length)*iO≤2 ^ 38→y8 κ w.heap (.slice base els.length cap) z els→
            ((cap=els.length∧els=[])∨∃b c fz,base=some ⟨b,0,none⟩∧κ b = .own i∧w.heap[b]? = some (.cells c e fz)∧uE fz c.size∧cap*z≤c.size∧EL κ w.heap c 0 z els)→
            Out P κ φ w s a (.own d z) [(i,.gone),(d,.arr e z (els++xs))] (Builtin.append_ #[t,t2] t #[.slice base els.length cap,vx]):=by
            intro i d els base cap hid hd hφi hcx hroom hsl hmode;obtain ⟨X,hX,hrow⟩:=src hcx;obtain ⟨F1,M1,R1⟩:=F.gone i hφi;have hd1:bF s.O i (some .gone) d=none:=by rw [dP _ _ (fun e=>hid e.symm)];exact hd
            obtain ⟨v',w',κ',φ',o1,o2,o3,o4⟩:=vN F1 (d:=d) (t:=t) (t2:=t2) hd1 hu hu2 hni hz hby g4 g2 g3 hroom hsl (hX w rfl).1 (fun w' hw=>(hX w' hw).2) hrow
             (by rcases hmode with ⟨m1,m2⟩ | ⟨b,c,fz,m1,m2,m3,m4,m5,m6⟩
                 ·exact .inl ⟨m1,.inl m2⟩
                 ·exact .inr ⟨b,c,fz,i,m1,m2,hid,bN _ _ _,m3,m4,m5,m6⟩)
            exact ⟨v',w',κ',φ',o1,o2,o3,R1.trans o4.1,M1.kp.trans o4.2⟩
           cases x<;>(try simp only at hx)<;>try (simp at hx;done)
           case d q=>
            cases q<;>(try simp only at hx)<;>try (simp at hx;done)
            rename_i sz els full;cases full<;>(try simp only at hx)<;>try (simp at hx;done)
            cases hzz:(Nat.beq sz z||els.isEmpty) with
            | false=>rw [hzz] at hx;simp at hx
            | true=>
              rw [hzz] at hx;simp only [cond_true] at hx;cases hO:s.O sl with
              | some p=>rw [hO] at hx;simp at hx
              | none=>
                rw [hO] at hx;simp only [Option.some.injEq] at hx;subst hx;obtain ⟨X,hX,hrow⟩:=src (fun b hb=>hc b (by simp [hb]));have hroom:(els.length+xs.length)*iO≤2 ^ 38:=by simpa using hc (decide ((els.length+xs.length)*iO≤2 ^ 38)) (by simp)
                have hne:(els.isEmpty || !xs.isEmpty)=true:=hc _ (by simp)
                have hor:els=[]∨xs≠[]:=by
                 simp only [Bool.or_eq_true] at hne;rcases hne with hne | hne
                 ·left;simpa using hne
                 ·right;intro e;subst e;simp at hne
                have hsl:y8 κ w.heap v z els∧∃base cap,v = .slice base els.length cap∧cap=els.length:=by
                 cases r with
                 | d hr=>
                   have h1:=hr.J9;refine ⟨?_,?_⟩
                   ·by_cases he:els=[]
                    ·subst he;obtain ⟨base,cap,e1,e2,_⟩:=h1;exact ⟨base,cap,e1,e2,.inl rfl⟩
                    ·have:sz=z:=by
                      simp only [Bool.or_eq_true] at hzz;rcases hzz with h | h
                      ·exact cB h
                      ·exact absurd (by simpa using h) he
                     subst this;exact h1
                   ·cases hr with
                    | iU hf=>exact ⟨_,_,rfl,(hf rfl).1⟩
                    | aC _ _ hf _ _ _ _=>exact ⟨_,_,rfl,(hf rfl).1⟩
                obtain ⟨hsl,base,cap,rfl,hcap⟩:=hsl;exact vN F (d:=sl) (t:=t) (t2:=t2) hO hu hu2 hni hz hby g4 g2 g3 hroom hsl (hX w rfl).1 (fun w' hw=>(hX w' hw).2) hrow (.inl ⟨hcap,hor⟩)
           case own i sz=>
            cases hzz:Nat.beq sz z with
            | false=>rw [hzz] at hx;simp at hx
            | true=>
              have:=cB hzz;subst this
              rw [hzz] at hx;simp only [cond_true] at hx;cases hO:s.O i with
              | none=>rw [hO] at hx;simp at hx
              | some p=>
                rw [hO] at hx;cases p<;>(try simp only at hx)<;>try (simp at hx;done)
                rename_i ty sz' els;cases xL:(Nat.beq sz' sz&&Nat.beq ty e) with
                | false=>rw [xL] at hx;simp at hx
                | true=>
                  rw [xL] at hx;simp only [cond_true] at hx;simp only [Bool.and_eq_true] at xL
                  have:=cB xL.1;subst this
                  have:=cB xL.2;subst this
                  have hid:i≠(bif Nat.beq i sl then sl+1 else sl):=by
                   cases hb:Nat.beq i sl with
                   | true=>have:=cB hb;subst this;simp
                   | false=>simp only [cond_false];intro e;rw [vK e] at hb;cases hb
                  generalize (bif Nat.beq i sl then sl+1 else sl)=d at hx hid;cases hd:s.O d with
                  | some p=>rw [hd] at hx;simp at hx
                  | none=>
                    rw [hd] at hx;simp only [Option.some.injEq] at hx;subst hx;have hroom:(els.length+xs.length)*iO≤2 ^ 38:=by simpa using hc (decide ((els.length+xs.length)*iO≤2 ^ 38)) (by simp)
                    have ho:=F.objs i;have hsl:=kr (.inl ⟨_,hO⟩) ho r;rw [hO] at ho;cases r with
                    | own hφ hb hcap hlc hlen=>
                      have hl:=hlen els.length (by rw [hO];rfl);subst hl;refine own i d els _ _ hid hd (by rw [hφ];simp) (fun b hb=>hc b (by simp [hb])) hroom hsl ?_;rcases ho with ⟨h1,h2⟩ | ⟨b,c,fz,h1,h2,h3,h4,h5⟩
                      ·rw [h1] at hφ;cases hφ
                      ·rw [h1] at hφ;injection hφ with hφ;subst hφ;rw [h3] at hb;injection hb with hb;injection hb with e1 e2 e3;subst e1;exact .inr ⟨_,_,_,rfl,h2,h3,h4,hcap,h5⟩
                    | gL hφ=>
                      rcases ho with ⟨h1,h2⟩ | ⟨b,c,fz,h1,h2,h3,h4,h5⟩
                      ·subst h2;exact own i d [] _ _ hid hd (by rw [hφ];simp) (fun b hb=>hc b (by simp [hb])) hroom hsl (.inl ⟨rfl,rfl⟩)
                      ·rw [h1] at hφ;cases hφ
           case sub i sz off len=>
            cases hzz:(Nat.beq sz z&&Nat.beq off 0) with
            | false=>rw [hzz] at hx;simp at hx
            | true=>
              simp only [Bool.and_eq_true] at hzz
              have:=cB hzz.1;subst this
              have:=cB hzz.2;subst this
              have:(Nat.beq sz sz&&Nat.beq 0 0)=true:=by simp
              rw [this] at hx;simp only [cond_true] at hx;cases hO:s.O i with
              | none=>rw [hO] at hx;simp at hx
              | some p=>
                rw [hO] at hx;cases p<;>(try simp only at hx)<;>try (simp at hx;done)
                rename_i ty sz' els;cases xL:(Nat.beq sz' sz&&Nat.beq ty e) with
                | false=>rw [xL] at hx;simp at hx
                | true=>
                  rw [xL] at hx;simp only [cond_true] at hx;simp only [Bool.and_eq_true] at xL
                  have:=cB xL.1;subst this
                  have:=cB xL.2;subst this
                  have hid:i≠(bif Nat.beq i sl then sl+1 else sl):=by
                   cases hb:Nat.beq i sl with
                   | true=>have:=cB hb;subst this;simp
                   | false=>simp only [cond_false];intro e;rw [vK e] at hb;cases hb
                  generalize (bif Nat.beq i sl then sl+1 else sl)=d at hx hid;cases hd:s.O d with
                  | some p=>rw [hd] at hx;simp at hx
                  | none=>
                    rw [hd] at hx;simp only [Option.some.injEq] at hx;subst hx;have hroom:(len+xs.length)*iO≤2 ^ 38:=by simpa using hc (decide ((len+xs.length)*iO≤2 ^ 38)) (by simp)
                    have hle:len≤els.length:=by simpa using hc (decide (len≤els.length)) (by simp)
                    have htl:(els.take len).length=len:=by simp;omega
                    have ho:=F.objs i;have hsl:=sM (.inl ⟨_,hO⟩) ho (by omega) r;simp only [List.drop_zero] at hsl;rw [hO] at ho;cases r with
                    | sub hφ hb hcap hlc=>
                      rename_i cap b c ty fz
                      have key:=own i d (els.take len) (some ⟨b,0,none⟩) cap hid hd (by rw [hφ];simp) (fun b hb=>hc b (by simp [hb])) (by rw [htl];exact hroom) (by rw [htl];simpa using hsl)
                       (by rcases ho with ⟨h1,h2⟩ | ⟨b',c',uz,h1,h2,h3,h4,h5⟩
                           ·rw [h1] at hφ;cases hφ
                           ·rw [h1] at hφ;injection hφ with hφ;subst hφ;rw [h3] at hb;injection hb with hb;injection hb with e1 e2 e3;subst e1;refine .inr ⟨_,_,_,rfl,h2,h3,h4,by simpa using hcap,?_⟩;rcases h5.part 0 len with h6 | h6
                            ·simpa using h6
                            ·simp only [List.drop_zero] at h6;rw [h6];exact ⟨fun x hx=>by simp at hx,by simp,by simp⟩)
                      rw [htl] at key;simpa using key
                    | oH hφ=>
                      have key:=own i d [] _ 0 hid hd hφ (fun b hb=>hc b (by simp [hb])) (by simpa using hroom) (by simpa using hsl) (.inl ⟨rfl,rfl⟩);simpa using key
end Go.Am
