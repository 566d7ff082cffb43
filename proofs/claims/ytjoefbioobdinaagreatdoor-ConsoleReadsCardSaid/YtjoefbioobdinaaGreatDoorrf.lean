/-
  Texts that the claim leans on: AmEff1, AmEff2, AmEff3, AmEff4, AmDrive, AmEntry, AmUse.
-/
import Derived.Test.YtjoefbioobdinaaGreatDoorre
namespace Go.Am
set_option linter.unusedSectionVars false
variable {P:Program} [Gl]
def Le (O O' : Tab):Prop:=∀i p,O i=some p→O' i=some p
theorem Le.aV {O O' : Tab} (h:Le O O') (u:List (Nat×ay)):Le (Am.aV O u) (Am.aV O' u):=by
 induction u generalizing O O' with
 | nil=>exact h
 | cons x r ih=>
   refine ih (fun i p hi=>?_);have hi' : bA O x.1 (some x.2) i=some p:=hi
   show bA O' x.1 (some x.2) i=some p
   by_cases e:i=x.1
   ·subst e;rw [bH] at hi' ⊢;exact hi'
   ·rw [dM _ _ e] at hi' ⊢;exact h i p hi'
theorem pz {O O' : Tab} (h:Le O O') {v:RV} {r:DV×List (Nat×ay)×List Bool} (hx:iq O v=some r):iq O' v=some r:=by
 cases v with
 | own i sz=>
   cases ho:O i with
   | none=>simp [iq,ho] at hx
   | some p=>simp only [iq,ho] at hx;simp only [iq,h i p ho];exact hx
 | sub i sz off len=>
   cases ho:O i with
   | none=>simp [iq,ho] at hx
   | some p=>simp only [iq,ho] at hx;simp only [iq,h i p ho];exact hx
 | _=>exact hx
theorem tO {O O' : Tab} (h:Le O O'):∀{l:List RV} {r:List DV×List (Nat×ay)×List Bool},jh O l=some r→jh O' l=some r
 | [],r,hx=>hx
 | v::l,r,hx=>by
   simp only [jh] at hx ⊢;cases h1:iq O v with
   | none=>rw [h1] at hx;simp at hx
   | some p=>
     cases h2:jh O l with
     | none=>rw [h1,h2] at hx;simp at hx
     | some q=>
       rw [h1,h2] at hx;rw [pz h h1,tO h h2];exact hx
theorem vB {O O' : Tab} (h:Le O O') {v:RV} {r:DV×List (Nat×ay)×List Bool} (hx:sU O v=some r):sU O' v=some r:=by
 cases v with
 | agg cs=>
   simp only [sU] at hx ⊢;cases h2:jh O cs with
   | none=>rw [h2] at hx;simp at hx
   | some q=>rw [h2] at hx;rw [tO h h2];exact hx
 | _=>simp only [sU] at hx ⊢;exact pz h hx
theorem yG {O O' : Tab} (h:Le O O'):∀{l:List (Nat×RV)} {r:List (Nat×DV)×List (Nat×ay)×List Bool},oH O l=some r→oH O' l=some r
 | [],r,hx=>hx
 | (i,v)::l,r,hx=>by
   simp only [oH] at hx ⊢;cases h1:sU O v with
   | none=>rw [h1] at hx;simp at hx
   | some p=>
     cases h2:oH O l with
     | none=>rw [h1,h2] at hx;simp at hx
     | some q=>
       rw [h1,h2] at hx;rw [vB h h1,yG h h2];exact hx
theorem rC {O O' : Tab} (h:Le O O') {v:RV} {r:RV×List (Nat×ay)×List Bool} (hx:iZ O v=some r):iZ O' v=some r:=by
 unfold iZ at hx ⊢;cases ho:Lu v with
 | false=>rw [ho] at hx;exact hx
 | true=>
   rw [ho] at hx;simp only [cond_true] at hx ⊢;cases h1:iq O v with
   | none=>rw [h1] at hx;simp at hx
   | some p=>rw [h1] at hx;rw [pz h h1];exact hx
theorem pE {O O' : Tab} (h:Le O O'):∀{l:List RV} {r:List RV×List (Nat×ay)×List Bool},fU O l=some r→fU O' l=some r
 | [],r,hx=>hx
 | v::l,r,hx=>by
   simp only [fU] at hx ⊢;cases h1:iZ O v with
   | none=>rw [h1] at hx;simp at hx
   | some p=>
     cases h2:fU O l with
     | none=>rw [h1,h2] at hx;simp at hx
     | some q=>
       rw [h1,h2] at hx;rw [rC h h1,pE h h2];exact hx
theorem Ez {O O' : Tab} (h:Le O O') {v:RV} {r:RV×List (Nat×ay)×List Bool} (hx:mQ O v=some r):mQ O' v=some r:=by
 cases v with
 | agg cs=>
   simp only [mQ] at hx ⊢;cases h2:fU O cs with
   | none=>rw [h2] at hx;simp at hx
   | some q=>rw [h2] at hx;rw [pE h h2];exact hx
 | _=>simp only [mQ] at hx ⊢;exact rC h hx
theorem oh {O O' : Tab} (h:Le O O'):∀{l:List RV} {r:List RV×List (Nat×ay)×List Bool},fD O l=some r→fD O' l=some r
 | [],r,hx=>hx
 | v::l,r,hx=>by
   simp only [fD] at hx ⊢;cases h1:mQ O v with
   | none=>rw [h1] at hx;simp at hx
   | some p=>
     cases h2:fD O l with
     | none=>rw [h1,h2] at hx;simp at hx
     | some q=>
       rw [h1,h2] at hx;rw [Ez h h1,oh h h2];exact hx
theorem rZ {O O' : Tab} (h:Le O O') {v:RV} {r:Nat×List DV×List Bool} (hx:lF O v=some r):lF O' v=some r:=by
 cases v with
 | own i sz=>
   cases ho:O i with
   | none=>simp [lF,ho] at hx
   | some p=>simp only [lF,ho] at hx;simp only [lF,h i p ho];exact hx
 | sub i sz off len=>
   cases ho:O i with
   | none=>simp [lF,ho] at hx
   | some p=>simp only [lF,ho] at hx;simp only [lF,h i p ho];exact hx
 | d x=>cases x<;>exact hx
 | _=>exact hx
theorem EA {O O' : Tab} (h:Le O O') {v:RV} {r:Nat×List DV×List Bool} (hx:mM O v=some r):mM O' v=some r:=by
 cases v with
 | d x=>cases x with
   | str s=>exact hx
   | _=>simp only [mM] at hx ⊢;exact rZ h hx
 | _=>simp only [mM] at hx ⊢;exact rZ h hx
theorem EB {E:Env} {O O' : Tab} (h:Le O O') {t:Nat} {v:RV} {r:cB} (hx:mK E O t v=some r):mK E O' t v=some r:=by
 unfold mK at hx ⊢;cases hz:E.size t with
 | none=>rw [hz] at hx;simp at hx
 | some z=>
   rw [hz] at hx;simp only at hx ⊢;cases v with
   | ptr i off=>
     simp only at hx ⊢;cases ho:O i with
     | none=>rw [ho] at hx;simp at hx
     | some p=>rw [ho] at hx;rw [h i p ho];exact hx
   | gQ i sz idx off=>
     simp only at hx ⊢;cases ho:O i with
     | none=>rw [ho] at hx;simp at hx
     | some p=>rw [ho] at hx;rw [h i p ho];exact hx
   | _=>exact hx
theorem Cq {E:Env} {O O' : Tab} (h:Le O O') {t:Nat} {a v:RV} {r:cB} (hx:lY E O t a v=some r):lY E O' t a v=some r:=by
 unfold lY at hx ⊢;cases hz:E.size t with
 | none=>rw [hz] at hx;simp at hx
 | some z=>
   rw [hz] at hx;simp only at hx ⊢;cases a with
   | ptr i off=>
     simp only at hx ⊢;cases ho:O i with
     | none=>rw [ho] at hx;simp at hx
     | some p=>rw [ho] at hx;rw [h i p ho];exact hx
   | gQ i sz idx off=>
     simp only at hx ⊢;cases ho:O i with
     | none=>rw [ho] at hx;simp at hx
     | some p=>
       rw [ho] at hx;rw [h i p ho];cases p with
       | arr ty sz' els=>
         simp only at hx ⊢;cases hb:Nat.beq sz' sz with
         | false=>rw [hb] at hx;simp at hx
         | true=>
           rw [hb] at hx;simp only [cond_true] at hx ⊢;cases h1:sU O v with
           | none=>rw [h1] at hx;simp at hx
           | some q=>rw [h1] at hx;rw [vB h h1];exact hx
       | _=>exact hx
   | _=>exact hx
theorem Gh {E:Env} {O O' : Tab} (h:Le O O') {t:Nat} {v:RV} {r:cB} (hx:Aa E O t v=some r):Aa E O' t v=some r:=by
 unfold Aa at hx ⊢;split at hx
 ·exact hx
 ·exact hx
 ·rename_i i _ hu;cases ho:O i with
  | none=>rw [ho] at hx;simp at hx
  | some p=>rw [ho] at hx;rw [h i p ho];exact hx
 ·exact hx
 ·exact hx
 ·exact hx
 ·rename_i i hu;cases ho:O i with
  | none=>rw [ho] at hx;simp at hx
  | some p=>rw [ho] at hx;rw [h i p ho];exact hx
 ·cases hx
theorem vC {E:Env} {O O' : Tab} (h:Le O O') {t:Nat} {v j:RV} {r:cB} (hx:jv E O t v j=some r):jv E O' t v j=some r:=by
 unfold jv at hx ⊢;split at hx
 ·split at hx
  ·exact hx
  ·rename_i k sz hu;cases ho:O k with
   | none=>rw [ho] at hx;simp at hx
   | some p=>rw [ho] at hx;rw [h k p ho];exact hx
  ·exact hx
  ·rename_i k off hu;cases ho:O k with
   | none=>rw [ho] at hx;simp at hx
   | some p=>rw [ho] at hx;rw [h k p ho];exact hx
  ·cases hx
 ·cases hx
theorem Cr {E:Env} {O O' : Tab} (h:Le O O') {t:Nat} {v:RV} {lo hi mx:Option RV} {r:cB} (hx:qb E O t v lo hi mx=some r):qb E O' t v lo hi mx=some r:=by
 unfold qb at hx ⊢;split at hx
 ·split at hx
  ·exact hx
  ·exact hx
  ·rename_i i sz hu;cases ho:O i with
   | none=>rw [ho] at hx;simp at hx
   | some p=>rw [ho] at hx;simp only [h i p ho];exact hx
  ·exact hx
  ·rename_i i off hu;cases ho:O i with
   | none=>rw [ho] at hx;simp at hx
   | some p=>rw [ho] at hx;simp only [h i p ho];exact hx
  ·cases hx
 ·exact hx
 ·cases hx
theorem EC {E:Env} {O O' : Tab} (h:Le O O') {sl:Nat} (hs:O' sl=O sl) {s d:Nat} {v:RV} {r:cB} (hx:uP E O sl s d v=some r):uP E O' sl s d v=some r:=by
 unfold uP at hx ⊢;rw [hs];split at hx
 ·exact hx
 ·exact hx
 ·exact hx
 ·rename_i v _ _ _ e hu1 hu2 hne;cases hb:qN (E.und e) with
  | false=>rw [hb] at hx;simp at hx
  | true=>
    rw [hb] at hx;simp only [cond_true] at hx ⊢;cases h1:lF O v with
    | none=>rw [h1] at hx;simp at hx
    | some q=>rw [h1] at hx;rw [rZ h h1];exact hx
 ·cases hx
theorem tQ {E:Env} {O O' : Tab} (h:Le O O') {sl:Nat} (hs:O' sl=O sl) {t n:Nat} {parts:List (Nat×RV)} {r:cB} (hx:iO E O sl t n parts=some r):iO E O' sl t n parts=some r:=by
 unfold iO at hx ⊢;rw [hs];split at hx
 ·rename_i e h1 h2;split at hx
  ·rename_i sz z h3 h4;cases h5:oH O parts with
   | none=>rw [h5] at hx;simp at hx
   | some q=>rw [h5] at hx;rw [yG h h5];exact hx
  ·cases hx
 ·cases hx
theorem zM {E:Env} {O O' : Tab} (h:Le O O') {sl:Nat} (hs:O' sl=O sl) (hs1:O' (sl+1)=O (sl+1)) {t:Nat} {s x:RV} {r:cB} (hx:nk E O sl t s x=some r):nk E O' sl t s x=some r:=by
 have hsl:∀i,O' (bif Nat.beq i sl then sl+1 else sl)=O (bif Nat.beq i sl then sl+1 else sl):=fun i=>by cases Nat.beq i sl<;>simp [hs,hs1]
 unfold nk at hx ⊢;split at hx
 ·rename_i e hu;split at hx
  ·rename_i z iP sx xs cx h1 h2 h3;rw [h1,h2,EA h h3];simp only;cases hb:((Nat.beq sx z||xs.isEmpty)&&Nat.ble 1 z&&Nat.ble 1 iP&&mO E e z) with
   | false=>rw [hb] at hx;simp at hx
   | true=>
     rw [hb] at hx;simp only [cond_true] at hx ⊢;split at hx
     ·simp only [hs];exact hx
     ·rename_i i sz
      (try simp only)
      cases hb2:Nat.beq sz z with
      | false=>rw [hb2] at hx;simp at hx
      | true=>
        rw [hb2] at hx;simp only [cond_true] at hx ⊢;cases ho:O i with
        | none=>rw [ho] at hx;simp at hx
        | some p=>rw [ho] at hx;rw [h i p ho];simp only [hsl];exact hx
     ·rename_i i sz off len
      (try simp only)
      cases hb2:(Nat.beq sz z&&Nat.beq off 0) with
      | false=>rw [hb2] at hx;simp at hx
      | true=>
        rw [hb2] at hx;simp only [cond_true] at hx ⊢;cases ho:O i with
        | none=>rw [ho] at hx;simp at hx
        | some p=>rw [ho] at hx;rw [h i p ho];simp only [hsl];exact hx
     ·cases hx
  ·cases hx
 ·cases hx
theorem wV {O O' : Tab} (h:Le O O') {fn:Fn} {fs cs:List RV} {r:cB} (hx:jT O fn fs cs=some r):jT O' fn fs cs=some r:=by
 unfold jT at hx ⊢;cases h1:fD O (fs++cs) with
 | none=>rw [h1] at hx;simp at hx
 | some q=>rw [h1] at hx;rw [oh h h1];exact hx
theorem vD (O:Tab):∀(n:Nat) (todo done:List Nat) (i:Nat),i∈done→i∈reach O n todo done
 | 0,_,done,i,h=>by simp [reach,h]
 | n+1,[],done,i,h=>by simp [reach,h]
 | n+1,x::todo,done,i,h=>by
   simp only [reach];cases (done.any fun j=>Nat.beq j x) with
   | true=>simp only [cond_true];exact vD O n todo done i h
   | false=>simp only [cond_false];exact vD O n _ _ i (by simp [h])
theorem sj {O O' : Tab} (h:Le O O'):∀(n:Nat) (todo done:List Nat),(∀i∈reach O n todo done,O i≠none)→reach O' n todo done=reach O n todo done
 | 0,_,_,_=>by simp [reach]
 | n+1,[],done,_=>by simp [reach]
 | n+1,x::todo,done,hr=>by
   simp only [reach] at hr ⊢;cases hb:(done.any fun j=>Nat.beq j x) with
   | true=>
     rw [hb] at hr;simp only [cond_true] at hr ⊢;exact sj h n todo done hr
   | false=>
     rw [hb] at hr;simp only [cond_false] at hr ⊢;have hx:=hr x (vD O n _ _ x (by simp))
     have e:O' x=O x:=by
      cases ho:O x with
      | none=>exact absurd ho hx
      | some p=>exact h x p ho
     rw [e];exact sj h n _ _ hr
theorem yH {α β:Type} {f g:α→Option β}:∀(l:List α),(∀x∈l,f x=g x)→eX f l=eX g l
 | [],_=>rfl
 | x::l,h=>by simp only [eX];rw [h x (by simp),yH l (fun y hy=>h y (by simp [hy]))]
theorem Av {α β:Type} {f:α→Option β}:∀{l:List α} {r:List β},eX f l=some r→∀x∈l,∃y,f x=some y
 | [],_,_,x,hx=>by simp at hx
 | a::l,r,h,x,hx=>by
   simp only [eX] at h;cases h1:f a with
   | none=>rw [h1] at h;simp at h
   | some y=>
     cases h2:eX f l with
     | none=>rw [h1,h2] at h;simp at h
     | some q=>
       rcases List.mem_cons.1 hx with rfl | hx
       ·exact ⟨y,h1⟩
       ·exact Av h2 x hx
theorem Gi {O O' : Tab}:∀(u:List (Nat×ay)) (i:Nat),O' i=O i→aV O' u i=aV O u i:=by
 intro u;induction u generalizing O O' with
 | nil=>intro i h;exact h
 | cons x r ih=>
   intro i h;refine ih i ?_
   show bA O' x.1 (some x.2) i=bA O x.1 (some x.2) i
   by_cases e:i=x.1
   ·subst e;rw [bH,bH]
   ·rw [dM _ _ e,dM _ _ e];exact h
theorem Aw:∀(qs:List Nat) (ps:List ay),qs.length≤ps.length→∀i∈qs,∃p,(i,p)∈tq qs ps
 | [],_,_,i,h=>by simp at h
 | q::qs,[],hl,_,_=>by simp at hl
 | q::qs,p::ps,hl,i,h=>by
   rcases List.mem_cons.1 h with rfl | h
   ·exact ⟨p,by simp [tq]⟩
   ·obtain ⟨p',hp⟩:=Aw qs ps (by simpa using hl) i h;exact ⟨p',by simp [tq,hp]⟩
theorem tV {K:uI} {dw:Bool} {O O' : Tab} (h:Le O O') {sl f:Nat} {args:List RV} {r:cB} (hx:iy K dw O sl f args=some r) (hk:∀p∈r.upd,O' p.1=O p.1):iy K dw O' sl f args=some r:=by
 unfold iy at hx ⊢
 have hpre:∀q,(bif dw then some (args,[],[]) else fD O args)=some q→(bif dw then some (args,[],[]) else fD O' args)=some q:=by
  intro q hq;cases dw with
  | true=>exact hq
  | false=>exact oh h hq
 cases h1:(bif dw then some (args,[],[]) else fD O args) with
 | none=>rw [h1] at hx;simp at hx
 | some q=>
   rw [hpre q h1];rw [h1] at hx;obtain ⟨args1,u,c⟩:=q;simp only at hx ⊢;generalize hps:reach (aV O u) 400 (args1.flatMap (RV.refs 6)) []=ps at hx;split at hx
   ·rename_i args2 objs h2 h3
    ·have hu:=h.aV u
     have hsome:∀i∈ps,aV O u i≠none:=fun i hi hn=>by
      obtain ⟨y,hy⟩:=Av h3 i hi;rw [hn] at hy;simp at hy
     have ZL : reach (aV O' u) 400 (args1.flatMap (RV.refs 6)) []=ps:=by
      rw [←hps];exact sj hu _ _ _ (by rw [hps];exact hsome)
     have hag:∀i∈ps,aV O' u i=aV O u i:=fun i hi=>by
      cases ho:aV O u i with
      | none=>exact absurd ho (hsome i hi)
      | some p=>exact hu i p ho
     rw [ZL,h2,(yH ps (fun i hi=>by simp only [hag i hi])).trans h3];simp only;cases h4:K f args2 objs with
     | none=>rw [h4] at hx;simp at hx
     | some q4=>
       obtain ⟨r4,bL,c2⟩:=q4;rw [h4] at hx;simp only at hx ⊢;generalize hnw:news sl (bL.length-ps.length)=nw at hx;cases h5:(nodupB ps&&nodupB (ps++nw)&&Nat.ble ps.length bL.length&&nw.all (fun i=>(aV O u i).isNone)) with
       | false=>rw [h5] at hx;simp at hx
       | true=>
         rw [h5] at hx;simp only [cond_true] at hx;cases h6:eX (ay.ren (fun j=>(ps++nw)[j]?)) bL with
         | none=>rw [h6] at hx;simp at hx
         | some fH=>
           cases h7:RV.ren (fun j=>(ps++nw)[j]?) 6 r4 with
           | none=>rw [h6,h7] at hx;simp at hx
           | some r''=>
             rw [h6,h7] at hx;simp only [Option.some.injEq] at hx;subst hx;simp only [Bool.and_eq_true] at h5
             have hlen:(ps++nw).length≤fH.length:=by
              have a1:=(dZ _ bL fH h6).1;have a2:=Nat.le_of_ble_eq_true h5.1.2;have a3:nw.length=bL.length-ps.length:=by rw [←hnw];simp [news]
              simp only [List.length_append];omega
             have hnone:nw.all (fun i=>(aV O' u i).isNone)=true:=by
              rw [List.all_eq_true];intro i hi;obtain ⟨p,hp⟩:=Aw (ps++nw) fH hlen i (by simp [hi]);rw [Gi u i (hk (i,p) (by simp [hp]))];exact List.all_eq_true.1 h5.2 i hi
             rw [h5.1.1.1,h5.1.1.2,h5.1.2,hnone];rfl
   ·cases hx
theorem Ct {diff:Bool} {K:uI} {dw:Bool} {O O' : Tab} (h:Le O O') {sl f:Nat} {args:List RV} {r:cB} (hx:qp diff K dw O sl f args=some r) (hk:∀p∈r.upd,O' p.1=O p.1):qp diff K dw O' sl f args=some r:=by
 unfold qp at hx ⊢;cases diff with
 | false=>exact tV h hx hk
 | true=>
   simp only at hx ⊢;cases hf:iy K dw O sl f args with
   | none=>rw [hf] at hx;simp at hx
   | some r0=>
     rw [hf] at hx;simp only at hx;cases hn:nodupB (r0.upd.map (·.1)) with
     | false=>rw [hn] at hx;simp at hx
     | true=>
       rw [hn] at hx;simp only [cond_true,Option.some.injEq] at hx;subst hx
       have hall:∀p∈r0.upd,O' p.1=O p.1:=fun p hp=>by
        cases e:Ar (O p.1) p.2 with
        | false=>exact hk p (List.mem_filter.2 ⟨hp,by simp [e]⟩)
        | true=>
          unfold Ar at e;split at e
          ·rename_i q hq;rw [h _ _ hq,hq]
          ·cases e
       rw [tV h hf hall];simp only [hn,cond_true,Option.some.injEq]
       have:nJ O' r0.upd=nJ O r0.upd:=List.filter_congr fun p hp=>by rw [hall p hp]
       rw [this]
theorem Cu {O O' : Tab} (h:Le O O') {x:RV} {b:Bool} (hx:p9 O x=some b):p9 O' x=some b:=by
 unfold p9 at hx ⊢;split at hx
 ·exact hx
 ·rename_i i sz;cases hO:O i with
  | none=>rw [hO] at hx;simp at hx
  | some p=>rw [hO] at hx;rw [h _ _ hO];exact hx
 ·exact hx
 ·cases hx
theorem ED {E:Env} {O O' : Tab} (h:Le O O') {op:BinOp} {t:Nat} {x y:RV} {r:cB} (hx:uO E O op t x y=some r):uO E O' op t x y=some r:=by
 unfold uO at hx ⊢;split at hx
 ·unfold xO at hx ⊢;split at hx
  ·rename_i e b hu hb;rw [hu,Cu h hb];exact hx
  ·cases hx
 ·exact hx
theorem EF {O O' : Tab} (h:Le O O') {x:RV} {es:List (DV×DV)} (hx:rowsOf O x=some es):rowsOf O' x=some es:=by
 unfold rowsOf at hx ⊢;split at hx
 ·exact hx
 ·rename_i i;cases hO:O i with
  | none=>rw [hO] at hx;simp at hx
  | some p=>rw [hO] at hx;rw [h i p hO];exact hx
 ·cases hx
theorem zN {E:Env} {O O' : Tab} (h:Le O O') {t:Nat} {x k:RV} {ok:Bool} {r:cB} (hx:nD E O t x k ok=some r):nD E O' t x k ok=some r:=by
 unfold nD at hx ⊢;split at hx
 ·rename_i kt et es kd hu hr;rw [hu,EF h hr];exact hx
 ·cases hx
theorem vG {E:Env} {O O' : Tab} (h:Le O O') {t:Nat} {m k y:RV} {r:cB} (hx:gT E O t m k y=some r):gT E O' t m k y=some r:=by
 unfold gT at hx ⊢;split at hx
 ·rename_i kt et i kd hu;split at hx
  ·rename_i yd u c es h1 h2;rw [vB h h1,h _ _ h2];exact hx
  ·cases hx
 ·cases hx
theorem zO {E:Env} {O O' : Tab} (h:Le O O') {t:Nat} {m k:RV} {r:cB} (hx:nE E O t m k=some r):nE E O' t m k=some r:=by
 unfold nE at hx ⊢;split at hx
 ·rename_i kt et i kd hu;split at hx
  ·rename_i es h1;rw [h _ _ h1];exact hx
  ·cases hx
 ·cases hx
theorem tX {E:Env} {O O' : Tab} (h:Le O O') {e i sz off len:Nat} {r:cB} (hx:nX E O e i sz off len=some r):nX E O' e i sz off len=some r:=by
 unfold nX at hx ⊢;split at hx
 ·rename_i sz' els z zz h1 h2 h3;rw [h _ _ h1,h2,h3];exact hx
 ·cases hx
theorem Cv {E:Env} {O O' : Tab} (h:Le O O') {t:Nat} {x:RV} {r:cB} (hx:qg E O t x=some r):qg E O' t x=some r:=by
 unfold qg at hx ⊢;split at hx
 ·rename_i e i sz hu;split at hx
  ·rename_i sz' els h1;rw [h _ _ h1];exact tX h hx
  ·cases hx
 ·rename_i e i sz off len hu;exact tX h hx
 ·cases hx
theorem Gj {cf:eu} {R:Nat→RV} {O O' : Tab} (h:Le O O') {sl:Nat} (hs:O' sl=O sl) (hs1:O' (sl+1)=O (sl+1)) {o:Oper} {res:cB} {un:Bool} (hx:tJ cf R O sl o=some (res,un))
 (hk:∀p∈res.upd,O' p.1=O p.1):tJ cf R O' sl o=some (res,un):=by
 unfold tJ at hx ⊢
 have val:∀{r r' : Option cB},(match r with | some r=>some (r,false) | none=>none)=some (res,un)→(r=some res→r'=some res)→(match r' with | some r=>some (r,false) | none=>none)=some (res,un):=by
  intro r r' h1 h2;cases r with
  | none=>simp at h1
  | some r=>simp at h1;obtain ⟨rfl,rfl⟩:=h1;rw [h2 rfl]
 have abX:∀{r:Option cB},(match r with | some r=>some (r,false) | none=>none)=some (res,un)→r=some res:=by
  intro r h1;cases r with
  | none=>simp at h1
  | some r=>simp at h1;rw [h1.1]
 cases ho:o.op<;>rw [ho] at hx<;>(try simp only at hx ⊢)<;>try exact hx
 case alloc t=>
  cases hz:cf.E.zero t with
  | none=>rw [hz] at hx;simp at hx
  | some z=>
    rw [hz] at hx;simp only at hx ⊢;refine val hx fun e=>?_;unfold p8 at e ⊢;rw [hs];exact e
 case box t x=>refine val hx fun e=>?_;unfold p8 at e ⊢;rw [hs];exact e
 case buildSlice t n parts=>exact val hx fun e=>tQ h hs e
 case load t x=>exact val hx fun e=>EB h e
 case store t x y=>
  cases h1:lY cf.E O t (aL R x) (aL R y) with
  | none=>rw [h1] at hx;simp at hx
  | some r=>rw [h1] at hx;rw [Cq h h1];exact hx
 case binOp op t x y yt=>exact val hx fun e=>ED h e
 case convert s d x=>exact val hx fun e=>EC h hs e
 case slice t x lo hi mx=>exact val hx fun e=>Cr h e
 case indexAddr t x i=>exact val hx fun e=>vC h e
 case makeFunc fn first caps=>exact val hx fun e=>wV h e
 case makeSlice t l c=>refine val hx fun e=>?_;unfold lZ at e ⊢;rw [hs];exact e
 case makeMap t hh=>refine val hx fun e=>?_;unfold nC at e ⊢;rw [hs];exact e
 case lookup t x i ok=>exact val hx fun e=>zN h e
 case mapUpdate t m k y=>
  cases h1:gT cf.E O t (aL R m) (aL R k) (aL R y) with
  | none=>rw [h1] at hx;simp at hx
  | some r=>rw [h1] at hx;rw [vG h h1];exact hx
 case call c=>
  cases hc:c.callee with
  | builtin b=>
    rw [hc] at hx;simp only at hx ⊢;refine val hx fun e=>?_;unfold uY at e ⊢;split at e
    ·exact Gh h e
    ·rename_i t t2 x y _ _;cases hn:kC (cf.E.und t2) with
     | false=>rw [hn] at e;simp at e
     | true=>rw [hn] at e;simp only [cond_true] at e ⊢;exact zM h hs hs1 e
    ·exact e
    ·exact e
    ·exact zO h e
    ·exact Cv h e
    ·cases e
  | value f=>
    rw [hc] at hx;simp only at hx ⊢;split at hx
    ·rename_i g first caps hg;cases hok:cf.eY g with
     | false=>rw [hok] at hx;simp at hx
     | true=>
       rw [hok] at hx;simp only [cond_true] at hx ⊢;exact val hx fun e=>Ct h e hk
    ·cases hx
  | _=>rw [hc] at hx;simp at hx
theorem fE {O O' : Tab} (h:Le O O') {i:Nat} {cs:List RV} (hx:bR O i=some cs):bR O' i=some cs:=by
 unfold bR at hx ⊢;split at hx
 ·rename_i t c he;rw [h _ _ he];exact hx
 ·rename_i t c he;rw [h _ _ he];exact hx
 ·cases hx
theorem mD {O O' : Tab} (h:Le O O') {i:Nat} {cs:List RV} (hx:bR O i=some cs):O' i=O i:=by
 unfold bR at hx;split at hx
 ·rename_i t c he;rw [h _ _ he,he]
 ·rename_i t c he;rw [h _ _ he,he]
 ·cases hx
theorem qy {O O' : Tab} (h:Le O O') {i:Nat} {cs:List RV} (hx:bR O i=some cs) (l:List RV):wT O' i l=wT O i l:=by
 unfold wT;rw [mD h hx]
theorem rD {O O' : Tab} (h:Le O O') {z:Nat} {x:RV} {r:Nat×List RV} (hx:jH O z x=some r):jH O' z x=some r:=by
 unfold jH at hx ⊢;split at hx
 ·exact hx
 ·exact hx
 ·rename_i i sz o len cap;cases hc:bR O i with
  | none=>rw [hc] at hx;simp at hx
  | some cs=>rw [hc] at hx;simp only [fE h hc];exact hx
 ·cases hx
theorem Cw {E:Env} {O O' : Tab} (h:Le O O') {t:Nat} {a:RV} {r:cB} (hx:qj E O t a=some r):qj E O' t a=some r:=by
 unfold qj at hx ⊢;split at hx
 ·rename_i z i off hz;cases hc:bR O i with
  | none=>rw [hc] at hx;simp at hx
  | some cs=>rw [hc] at hx;simp only [fE h hc];exact hx
 ·cases hx
theorem zP {E:Env} {O O' : Tab} (h:Le O O') {t:Nat} {a v:RV} {r:cB} (hx:kK E O t a v=some r):kK E O' t a v=some r:=by
 unfold kK at hx ⊢;split at hx
 ·rename_i z i off hz;cases hc:bR O i with
  | none=>rw [hc] at hx;simp at hx
  | some cs=>rw [hc] at hx;simp only [fE h hc,qy h hc];exact hx
 ·cases hx
theorem zQ {E:Env} {O O' : Tab} (h:Le O O') {t:Nat} {x:RV} {lo hi mx:Option RV} {r:cB} (hx:nH E O t x lo hi mx=some r):nH E O' t x lo hi mx=some r:=by
 unfold nH at hx ⊢;split at hx
 ·split at hx
  ·rename_i e i sz o len cap hu;cases hz:E.size e with
   | none=>rw [hz] at hx;simp at hx
   | some z=>
     rw [hz] at hx;simp only at hx;cases hc:bR O i with
     | none=>rw [hc] at hx;simp at hx
     | some cs=>
       have e1:Aq O' i sz o len cap=Aq O i sz o len cap:=by unfold Aq;rw [mD h hc]
       rw [hc] at hx;simp only [fE h hc,e1];exact hx
  ·exact hx
  ·rename_i n e i off hu;cases hc:bR O i with
   | none=>rw [hc] at hx;simp at hx
   | some cs=>rw [hc] at hx;simp only [fE h hc];exact hx
  ·cases hx
 ·cases hx
theorem Cx {E:Env} {O O' : Tab} (h:Le O O') {sl:Nat} (hs:O' sl=O sl) {s d:Nat} {x:RV} {r:cB} (hx:qm E O sl s d x=some r):qm E O' sl s d x=some r:=by
 unfold qm at hx ⊢;split at hx
 ·rw [hs];exact hx
 ·rename_i e i sz o len cap hs hd;cases hg:(qN (E.und e)&&Nat.beq sz 1) with
  | false=>rw [hg] at hx;simp at hx
  | true=>
    rw [hg] at hx;cases hc:bR O i with
    | none=>rw [hc] at hx;simp at hx
    | some cs=>rw [hc] at hx;simp only [fE h hc];exact hx
 ·exact hx
 ·cases hx
theorem yI {E:Env} {O O' : Tab} (h:Le O O') {sl:Nat} (hs:O' sl=O sl) {t:Nat} {s x:RV} {r:cB} (hx:lq E O sl t s x=some r):lq E O' sl t s x=some r:=by
 unfold lq at hx ⊢;split at hx
 ·rename_i e hu;split at hx
  ·rename_i z iP hz hby
   cases hsrc:jH O z x with
   | none=>rw [hsrc] at hx;simp at hx
   | some p=>
     obtain ⟨m,xs⟩:=p;rw [hsrc] at hx;simp only [rD h hsrc,hs] at hx ⊢;cases hg:(Nat.ble 1 iP&&mO E e z) with
     | false=>rw [hg] at hx;simp at hx
     | true=>
       rw [hg] at hx;simp only [cond_true] at hx ⊢;split at hx
       ·exact hx
       ·rename_i i sz o len cap;cases hm:Nat.beq m 0 with
        | true=>rw [hm] at hx;exact hx
        | false=>
          rw [hm] at hx;simp only [cond_false] at hx ⊢;cases hc:bR O i with
          | none=>rw [hc] at hx;simp at hx
          | some cs=>
            have e1:roomFor O' i sz o len m cap cs.length=roomFor O i sz o len m cap cs.length:=by unfold roomFor;rw [mD h hc]
            rw [hc] at hx;simp only [fE h hc,qy h hc,mD h hc,e1] at hx ⊢;exact hx
       ·cases hx
  ·cases hx
 ·cases hx
theorem Cy {E:Env} {O O' : Tab} (h:Le O O') {t:Nat} {x y:RV} {r:cB} (hx:ql E O t x y=some r):ql E O' t x y=some r:=by
 unfold ql at hx ⊢;split at hx
 ·rename_i e hu;cases hz:E.size e with
  | none=>rw [hz] at hx;simp at hx
  | some z=>
    rw [hz] at hx;simp only at hx ⊢;cases hsrc:jH O z y with
    | none=>rw [hsrc] at hx;simp at hx
    | some p=>
      obtain ⟨m,ys⟩:=p;rw [hsrc] at hx;simp only [rD h hsrc] at hx ⊢;split at hx
      ·exact hx
      ·rename_i i sz o len cap;cases h0:Nat.beq (Nat.min m len) 0 with
       | true=>rw [h0] at hx;exact hx
       | false=>
         rw [h0] at hx;simp only [cond_false] at hx ⊢;cases hc:bR O i with
         | none=>rw [hc] at hx;simp at hx
         | some cs=>rw [hc] at hx;simp only [fE h hc,qy h hc] at hx ⊢;exact hx
      ·cases hx
 ·cases hx
theorem zR {E:Env} {O O' : Tab} (h:Le O O') {t:Nat} {x:RV} {r:cB} (hx:nI E O t x=some r):nI E O' t x=some r:=by
 unfold nI at hx ⊢;split at hx
 ·rename_i e hu;split at hx
  ·exact hx
  ·rename_i i sz o len cap;cases h0:Nat.beq len 0 with
   | true=>rw [h0] at hx;exact hx
   | false=>
     rw [h0] at hx;simp only [cond_false] at hx ⊢;cases hc:bR O i with
     | none=>rw [hc] at hx;simp at hx
     | some cs=>rw [hc] at hx;simp only [fE h hc,qy h hc] at hx ⊢;exact hx
  ·cases hx
 ·cases hx
theorem Gm {cf:eu} {R:Nat→RV} {O O' : Tab} (h:Le O O') {sl:Nat} (hs:O' sl=O sl) {o:Oper} {res:cB} {un:Bool} (hx:tK cf R O sl o=some (res,un)):tK cf R O' sl o=some (res,un):=by
 unfold tK at hx ⊢
 have val:∀{r r' : Option cB},nM r=some (res,un)→(r=some res→r'=some res)→nM r'=some (res,un):=by
  intro r r' h1 h2;cases r with
  | none=>simp [nM] at h1
  | some r=>simp [nM] at h1;obtain ⟨rfl,rfl⟩:=h1;rw [h2 rfl];rfl
 cases ho:o.op<;>rw [ho] at hx<;>(try simp only at hx ⊢)<;>try exact hx
 case alloc t=>
  cases hz:cf.E.zero t with
  | none=>rw [hz] at hx;simp at hx
  | some z=>
    rw [hz] at hx;simp only at hx ⊢;refine val hx fun e=>?_;unfold nG at e ⊢;rw [hs];exact e
 case box t x=>refine val hx fun e=>?_;unfold nG at e ⊢;rw [hs];exact e
 case buildSlice t n parts=>refine val hx fun e=>?_;unfold ku at e ⊢;rw [hs];exact e
 case load t x=>exact val hx fun e=>Cw h e
 case store t x y=>
  cases h1:kK cf.E O t (aL R x) (aL R y) with
  | none=>rw [h1] at hx;simp at hx
  | some r=>rw [h1] at hx;rw [zP h h1];exact hx
 case convert s d x=>exact val hx fun e=>Cx h hs e
 case slice t x lo hi mx=>exact val hx fun e=>zQ h e
 case makeSlice t l c=>refine val hx fun e=>?_;unfold kY at e ⊢;rw [hs];exact e
 case range t x=>
  refine val hx fun e=>?_;unfold xB at e ⊢;rw [hs];split at e
  ·exact e
  ·rename_i i _ _;split at e
   ·rename_i hi;rw [h _ _ hi];exact e
   ·cases e
  ·cases e
 case next x str=>
  refine val hx fun e=>?_;unfold Cj at e ⊢;split at e
  ·rename_i j;split at e
   ·rename_i hO;rw [h _ _ hO];exact e
   ·rename_i m hO;rw [h _ _ hO];simp only;split at e
    ·rename_i hm;rw [h _ _ hm];exact e
    ·cases e
   ·cases e
  ·cases e
 case call c=>
  cases hc:c.callee with
  | builtin b=>
    rw [hc] at hx;simp only at hx ⊢;refine val hx fun e=>?_;unfold rX at e ⊢;split at e
    ·exact e
    ·exact e
    ·rename_i t t2 x y _ _;cases hn:kC (cf.E.und t2) with
     | false=>rw [hn] at e;simp at e
     | true=>rw [hn] at e;simp only [cond_true] at e ⊢;exact yI h hs e
    ·exact Cy h e
    ·exact zR h e
    ·exact e
    ·cases e
  | _=>rw [hc] at hx;simp at hx
theorem JL {cf:eu} {R:Nat→RV} {O O' : Tab} (h:Le O O') {sl:Nat} (hs:O' sl=O sl) (hs1:O' (sl+1)=O (sl+1)) {o:Oper} {res:cB} {un:Bool} (hx:mR cf R O sl o=some (res,un))
 (hk:∀p∈res.upd,O' p.1=O p.1):mR cf R O' sl o=some (res,un):=by
 unfold mR at hx ⊢;cases hv:((cf.vm&&WC cf.E R o)||isIt o) with
 | false=>rw [hv] at hx;exact Gj h hs hs1 hx hk
 | true=>rw [hv] at hx;exact Gm h hs hx
def bG (u:List (Nat×ay)):List Nat:=u.map (·.1)
theorem kM {u:List (Nat×ay)}:∀{O:Tab} {i:Nat},i∉bG u→aV O u i=O i:=by
 induction u with
 | nil=>intro O i _;rfl
 | cons x r ih=>
   intro O i h;simp only [bG,List.map_cons,List.mem_cons,not_or] at h
   show aV (bA O x.1 (some x.2)) r i=O i
   rw [ih h.2,dM _ _ h.1]
theorem Cz {u:List (Nat×ay)}:∀{O O' : Tab} {i:Nat},i∈bG u→aV O u i=aV O' u i:=by
 induction u with
 | nil=>intro O O' i h;simp [bG] at h
 | cons x r ih=>
   intro O O' i h
   show aV (bA O x.1 (some x.2)) r i=aV (bA O' x.1 (some x.2)) r i
   by_cases hr:i∈bG r
   ·exact ih hr
   ·have e:i=x.1:=by
     simp only [bG,List.map_cons,List.mem_cons] at h;rcases h with h | h
     ·exact h
     ·exact absurd h hr
    rw [kM hr,kM hr,e,bH,bH]
def iB (L:Nat→Bool):Nat→List (List (Nat×ay))→Tab→Tab
 | _,[],O=>O
 | k,u::us,O=>iB L (k+1) us (bif L k then aV O u else O)
theorem lM {L M:Nat→Bool} {i:Nat}:∀(us:List (List (Nat×ay))) (k:Nat) (O O' : Tab),O i=O' i→(∀(j:Nat) (u:List (Nat×ay)),us[j]? = some u→i∈bG u→L (k+j)=M (k+j))→
 iB L k us O i=iB M k us O' i
 | [],_,_,_,h,_=>h
 | u::us,k,O,O',h,hj=>by
   simp only [iB];refine lM us (k+1) _ _ ?_ (fun j u' hu hi=>by have:=hj (j+1) u' (by simpa using hu) hi;rw [show k+1+j=k+(j+1) by omega];exact this);by_cases hi:i∈bG u
   ·have:=hj 0 u rfl hi
    rw [Nat.add_zero] at this;rw [this];cases M k with
    | true=>simp only [cond_true];exact Cz hi
    | false=>simp only [cond_false];exact h
   ·have key:∀(b:Bool) (X:Tab),(bif b then aV X u else X) i=X i:=fun b X=>by cases b<;>simp [kM hi]
    rw [key,key];exact h
theorem qz {L:Nat→Bool}:∀(us:List (List (Nat×ay))) (k:Nat) (O:Tab),(∀j,j < us.length→L (k+j)=false)→iB L k us O=O
 | [],_,_,_=>rfl
 | u::us,k,O,h=>by
   simp only [iB]
   have:=h 0 (by simp);rw [Nat.add_zero] at this
   rw [this,cond_false];exact qz us (k+1) O (fun j hj=>by rw [show k+1+j=k+(j+1) by omega];exact h (j+1) (by simpa using hj))
theorem nN:∀(us:List (List (Nat×ay))) (k n:Nat) (O:Tab),iB (fun x=>decide (x < k+n)) k us O=(us.take n).foldl aV O
 | [],_,n,O=>by simp [iB]
 | u::us,k,0,O=>by
   rw [List.take_zero,List.foldl_nil];exact qz _ _ _ (fun j _=>by simp)
 | u::us,k,n+1,O=>by
   simp only [iB,List.take_succ_cons,List.foldl_cons]
   have:decide (k < k+(n+1))=true:=by simp
   rw [this,cond_true,←nN us (k+1) n];congr 1;funext x;congr 1;apply propext;omega
theorem pF {L L' : Nat→Bool}:∀(us:List (List (Nat×ay))) (k j:Nat) (u:List (Nat×ay)) (O:Tab),us[j]? = some u→L (k+j)=false→L' (k+j)=true→(∀x,x≠k+j→L' x=L x)→
 (∀(x:Nat) (u' : List (Nat×ay)),j < x→us[x]? = some u'→L (k+x)=true→∀i∈bG u,i∉bG u')→iB L' k us O=aV (iB L k us O) u
 | [],_,_,_,_,h,_,_,_,_=>by simp at h
 | a::us,k,0,u,O,h,h1,h2,h3,h4=>by
   simp at h;subst h;simp only [iB];rw [Nat.add_zero] at h1 h2 h3;rw [h1,h2,cond_true,cond_false]
   have rest:∀(vs:List (List (Nat×ay))) (k' : Nat) (X:Tab),(∀j,L' (k'+j)=L (k'+j))→(∀(x:Nat) (u' : List (Nat×ay)),vs[x]? = some u'→L (k'+x)=true→∀i∈bG a,i∉bG u')→
    iB L' k' vs (aV X a)=aV (iB L k' vs X) a:=by
    intro vs;induction vs with
    | nil=>intro k' X _ _;rfl
    | cons b vs ih=>
      intro k' X e1 e2;simp only [iB];have e0:=e1 0;rw [Nat.add_zero] at e0;rw [e0];have r1:∀j,L' (k'+1+j)=L (k'+1+j):=fun j=>by have:=e1 (j+1);rw [show k'+1+j=k'+(j+1) by omega];exact this
      have r2:∀(x:Nat) (u' : List (Nat×ay)),vs[x]? = some u'→L (k'+1+x)=true→∀i∈bG a,i∉bG u':=fun x u' hu hl=>by
       exact e2 (x+1) u' (by simpa using hu) (by rw [show k'+(x+1)=k'+1+x by omega];exact hl)
      cases hL:L k' with
      | false=>simp only [cond_false];exact ih (k'+1) X r1 r2
      | true=>
        simp only [cond_true];have ZM:=e2 0 b rfl (by rw [Nat.add_zero];exact hL)
        have comm:aV (aV X a) b=aV (aV X b) a:=by
         funext i;by_cases ha:i∈bG a
         ·have hb:=ZM i ha;rw [kM hb];exact Cz ha
         ·rw [kM ha (O:=aV X b)];by_cases hb:i∈bG b
          ·exact Cz hb
          ·rw [kM hb,kM hb,kM ha]
        rw [comm];exact ih (k'+1) _ r1 r2
   exact rest us (k+1) O (fun j=>h3 _ (by omega)) (fun x u' hu hl=>h4 (x+1) u' (by omega) (by simpa using hu) (by rw [show k+(x+1)=k+1+x by omega];exact hl))
 | a::us,k,j+1,u,O,h,h1,h2,h3,h4=>by
   simp only [iB];rw [h3 k (by omega)]
   exact pF us (k+1) j u _ (by simpa using h) (by rw [show k+1+j=k+(j+1) by omega];exact h1) (by rw [show k+1+j=k+(j+1) by omega];exact h2)
    (fun x hx=>h3 x (by omega)) (fun x u' hx hu hl=>h4 (x+1) u' (by omega) (by simpa using hu) (by rw [show k+(x+1)=k+1+x by omega];exact hl))
inductive Before (ops:Array Oper):Nat→Nat→Prop
 | edge {j k:Nat} {o:Oper} (ho:ops[j]? = some o) {e:Edge} (he:e∈o.after) (hb:Region.binds .any e=true) (hk:e.on=k):Before ops k j
 | step {j k:Nat} {o:Oper} (ho:ops[j]? = some o) {e:Edge} (he:e∈o.after) (hb:Region.binds .any e=true) (hk:Before ops k e.on):Before ops k j
def LH (m k:Nat):Bool:=Nat.beq (m / 2 ^ k % 2) 1
theorem CB (m k:Nat):LH m k=m.testBit k:=by
 rw [Nat.testBit_eq_decide_div_mod_eq];unfold LH;by_cases h:m / 2 ^ k % 2=1
 ·rw [vZ h,decide_eq_true h]
 ·rw [zY h,decide_eq_false h]
def Iy (acc:List Nat) (o:Oper):Nat:=o.after.toList.foldl (fun m e=>bif Region.binds .any e then (m ||| 2 ^ e.on) ||| acc.getD e.on 0 else m) 0
def zS:List Oper→List Nat→List Nat
 | [],acc=>acc
 | o::r,acc=>zS r (acc++[Iy acc o])
theorem Gn {ops:Array Oper} {acc:List Nat} {o:Oper} {j:Nat} (ho:ops[j]? = some o) (hacc:∀(i k:Nat),(acc.getD i 0).testBit k=true→Before ops k i) {k:Nat} (h:(Iy acc o).testBit k=true):Before ops k j:=by
 unfold Iy at h
 have key:∀(l:List Edge) (m:Nat),(∀e∈l,e∈o.after)→(m.testBit k=true→Before ops k j)→
  (l.foldl (fun m e=>bif Region.binds .any e then (m ||| 2 ^ e.on) ||| acc.getD e.on 0 else m) m).testBit k=true→Before ops k j:=by
  intro l;induction l with
  | nil=>intro m _ hm h;exact hm h
  | cons e l ih=>
    intro m hl hm h;simp only [List.foldl_cons] at h;refine ih _ (fun x hx=>hl x (by simp [hx])) (fun h2=>?_) h;cases hb:Region.binds .any e with
    | false=>rw [hb] at h2;exact hm h2
    | true=>
      rw [hb] at h2;simp only [cond_true,Nat.testBit_or,Bool.or_eq_true,Nat.testBit_two_pow,decide_eq_true_eq] at h2;rcases h2 with (h2 | h2) | h2
      ·exact hm h2
      ·exact .edge ho (hl e (by simp)) hb h2
      ·exact .step ho (hl e (by simp)) hb (hacc _ _ h2)
 exact key o.after.toList 0 (fun e he=>by simpa using he) (fun h=>by simp at h) h
theorem qA {ops:Array Oper}:∀(l:List Oper) (acc:List Nat),(∀(i:Nat) (o:Oper),l[i]? = some o→ops[acc.length+i]? = some o)→(∀(i k:Nat),(acc.getD i 0).testBit k=true→Before ops k i)→
 ∀(i k:Nat),((zS l acc).getD i 0).testBit k=true→Before ops k i
 | [],acc,_,h=>h
 | o::r,acc,hl,h=>by
   refine qA r (acc++[Iy acc o]) (fun i o' hi=>?_) (fun i k hk=>?_)
   ·have:=hl (i+1) o' (by simpa using hi)
    rw [←this];congr 1;simp;omega
   ·rcases Nat.lt_trichotomy i acc.length with hi | hi | hi
    ·refine h i k ?_;rw [List.getD_eq_getElem?_getD,List.getElem?_append_left hi] at hk;rw [List.getD_eq_getElem?_getD];exact hk
    ·subst hi;rw [List.getD_eq_getElem?_getD,List.getElem?_append_right (Nat.le_refl _)] at hk;simp at hk;exact Gn (by simpa using hl 0 o rfl) h hk
    ·rw [List.getD_eq_getElem?_getD,List.getElem?_append_right (by omega)] at hk
     have:i-acc.length≠0:=by omega
     simp [this] at hk
theorem Before.done {ops:Array Oper} {L:Nat→Bool} (hL:∀(j:Nat) (o:Oper),ops[j]? = some o→L j=true→∀e∈o.after,Region.binds .any e=true→L e.on=true) {k j:Nat} (h:Before ops k j) (hj:L j=true):L k=true:=by
 induction h with
 | edge ho he hb hk=>subst hk;exact hL _ _ ho hj _ he hb
 | step ho he hb _ ih=>exact ih (hL _ _ ho hj _ he hb)
theorem Before.ready {ops:Array Oper} {L:Nat→Bool} (hL:∀(j:Nat) (o:Oper),ops[j]? = some o→L j=true→∀e∈o.after,Region.binds .any e=true→L e.on=true) {k j:Nat} (h:Before ops k j)
 (hj:∀o,ops[j]? = some o→∀e∈o.after,Region.binds .any e=true→L e.on=true):L k=true:=by
 cases h with
 | edge ho he hb hk=>subst hk;exact hj _ ho _ he hb
 | step ho he hb hk=>exact hk.done hL (hj _ ho _ he hb)
def Xh (o:Oper):Bool:=match o.op with
 | .move _=>false
 | .assign _=>false
 | .pick _ _ _=>false
 | .build _ _=>false
 | .nilCheck _=>false
 | .unOp _ _ _=>false
 | .fieldAddr _ _ _=>false
 | .field _ _ _=>false
 | .index _ _ _=>false
 | .extract _ _=>false
 | _=>true
def Xi:RV→List Nat
 | .own i _=>[i]
 | _=>[]
def foot (R:Nat→RV) (O:Tab) (o:Oper):List Nat:=match o.op with
 | .call c=>match c.callee with
   | .builtin _=>c.args.toList.flatMap fun x=>(aL R x).refs 6
   | _=>reach O 400 (o.op.operands.toList.flatMap fun x=>(aL R x).refs 6) []
 | .store _ x _=>(aL R x).refs 6
 | .box _ _=>[]
 | .alloc _=>[]
 | .buildSlice _ _ _=>[]
 | .makeFunc _ _ _=>[]
 | .indexAddr _ x _=>Xi (aL R x)
 | _=>bif Xh o then o.op.operands.toList.flatMap fun x=>(aL R x).refs 6 else []
def nO (F:List Nat) (O:Tab):Tab:=fun i=>bif F.any (fun j=>Nat.beq j i) then O i else none
def lN (O:Tab) (F ks:List Nat):Bool:=ks.all fun i=>F.any (fun j=>Nat.beq j i)||(O i).isNone
def bD (n z:Nat) (o:Oper):Nat:=match o.dst with
 | some d=>z+32*d
 | none=>z+32*n
def qR (cf:eu) (ops:Array Oper) (ov:Ov) (R:Nat→RV) (O:Tab) (sl:Nat) (o:Oper):Option (RV×List (Nat×ay)×List Bool×List (RV×RV)):=
 match guardOf R ops o with
 | none=>none
 | some false=>some (.und,[],[],[])
 | some true=>match mR cf R O sl o with
   | none=>none
   | some (res,_)=>match o.dst with
     | none=>some (.bot,res.upd,res.conds,[])
     | some d=>match vk d ov with
       | none=>some (res.val,res.upd,res.conds,[])
       | some v=>some (v,res.upd,res.conds,[(res.val,v)])
theorem Iz {κ:bB} {φ:bJ} {w:World} {s:bQ} {a:Act} {cf:eu} (hcf:jI P cf) {ops:Array Oper} {ov:Ov} {o:Oper} {v:RV} {u:List (Nat×ay)} {cs:List Bool} {es:List (RV×RV)} {sl:Nat} (F:aC κ φ w s a)
 (h:qR cf ops ov s.R s.O sl o=some (v,u,cs,es)) (hc:∀c∈cs,c=true) (he:∀e∈es,iI e.1 e.2) {i:Nat} (hi:ops[i]? = some o)
 (hn:∀(j:Nat) (gg:Oper) (t:Nat),ops[j]? = some gg→gg.dst=some t→t < s.n) {Q:Exit→Act→World→Prop} {K:Act→World→Prop}
 (hk:∀a' w' κ' φ',aC κ' φ' w' { s with R:=jc s.R o.dst v,O:=aV s.O u } a'→Fr κ w κ' w'→Kp φ s.O φ' (aV s.O u)→K a' w'):wpOp P ops Q i K a w:=by
 unfold qR at h;unfold wpOp;rw [hi];simp only;have hdst:∀d,o.dst=some d→d < s.n:=fun d hd=>hn i o d hi hd;split at h
 ·simp at h
 ·rename_i hg;rw [fZ F hg (fun j want gg t _ hj ht=>hn j gg t hj ht)];simp only [Bool.false_eq_true,if_false];injection h with h;injection h with h1 h2;injection h2 with h2 h3;subst h1;subst h2;exact hk _ _ κ φ (F.jc hdst .und) (Fr.refl _ _) (Kp.refl _ _)
 ·rename_i hg;rw [fZ F hg (fun j want gg t _ hj ht=>hn j gg t hj ht)];simp only [if_true];left;split at h
  ·simp at h
  ·rename_i res un hex
   have fin:∀rv,v=rv→u=res.upd→iI res.val rv∨o.dst=none→(∀c∈res.conds,c=true)→o.wp P a w K Q:=by
    rintro rv rfl rfl hle hcc
    refine Et hcf F (sl:=sl) hex hcc (fun u' w' κ' φ' g1 g2 g3 g4=>?_);refine hk _ _ κ' φ' ?_ g3 g4;rcases hle with hle | hle
    ·exact aC.jc (s:={ s with O:=aV s.O res.upd }) g1 hdst (hle _ _ _ _ _ g2)
    ·rw [hle];exact aC.xu g1 u'
   split at h
   ·rename_i hd;injection h with h;injection h with h1 h2;injection h2 with h2 h3;injection h3 with h3 h4;subst h3;exact fin v rfl h2.symm (.inr hd) hc
   ·split at h
    ·injection h with h;injection h with h1 h2;injection h2 with h2 h3;injection h3 with h3 h4;subst h3;exact fin v rfl h2.symm (.inl (h1▸fun _ _ _ _ _ r=>r)) hc
    ·rename_i vv hv;injection h with h;injection h with h1 h2;injection h2 with h2 h3;injection h3 with h3 h4;subst h3;subst h4;subst h1;exact fin _ rfl h2.symm (.inl (he (res.val,vv) (by simp))) hc
def yJ (cf:eu) (ops:Array Oper) (ov:Ov) (n z:Nat):List Oper→T RV→T ay→List Bool→List (RV×RV)→List (List Nat×List Nat)→Option (T RV×T ay×List Bool×List (RV×RV)×List (List Nat×List Nat))
 | [],t,ob,cs,es,rs=>some (t,ob,cs,es,rs)
 | o::r,t,ob,cs,es,rs=>
   match qR cf ops ov (aY t) (nO (foot (aY t) ob.get o) ob.get) (bD n z o) o with
   | none=>none
   | some (v,u,c,e)=>
     bif oW u&&lN ob.get (foot (aY t) ob.get o) (bD n z o::(bD n z o+1)::bG u) then
      match o.dst with
      | none=>yJ cf ops ov n z r t (jm ob u) (cs++c) (es++e) (rs++[(foot (aY t) ob.get o++bD n z o::(bD n z o+1)::bG u,bG u)])
      | some d=>bif Nat.ble d 8000 then yJ cf ops ov n z r (t.set d (some v)) (jm ob u) (cs++c) (es++e) (rs++[(foot (aY t) ob.get o++bD n z o::(bD n z o+1)::bG u,bG u)]) else none
     else none
theorem qB {cf:eu} {ops:Array Oper} {ov:Ov} {n z:Nat}:∀(l:List Oper) (t t' : T RV) (ob CF : T ay) (cs cs' : List Bool) (es es' : List (RV×RV)) (rs rs' : List (List Nat×List Nat)),
 yJ cf ops ov n z l t ob cs es rs=some (t',CF,cs',es',rs')→(∀c∈cs,c∈cs')∧(∀e∈es,e∈es')∧(∀d,(∀o∈l,o.dst≠some d)→aY t' d=aY t d)
 | [],t,t',ob,CF,cs,cs',es,es',rs,rs',h=>by
   simp [yJ] at h;obtain ⟨rfl,rfl,rfl,rfl,rfl⟩:=h;exact ⟨fun _ h=>h,fun _ h=>h,fun _ _=>rfl⟩
 | o::r,t,t',ob,CF,cs,cs',es,es',rs,rs',h=>by
   simp only [yJ] at h;split at h
   ·simp at h
   ·rename_i v u c e h1;cases hb0:(oW u&&lN ob.get (foot (aY t) ob.get o) (bD n z o::(bD n z o+1)::bG u)) with
    | false=>rw [hb0] at h;simp at h
    | true=>
      rw [hb0] at h;simp only [cond_true] at h;cases hd:o.dst with
      | none=>
        rw [hd] at h;simp only at h;obtain ⟨q1,q2,q3⟩:=qB r _ _ _ _ _ _ _ _ _ _ h;exact ⟨fun c hc=>q1 c (by simp [hc]),fun e he=>q2 e (by simp [he]),fun d hh=>q3 d (fun o ho=>hh o (by simp [ho]))⟩
      | some d0=>
        rw [hd] at h;simp only at h;cases hb:Nat.ble d0 8000 with
        | false=>rw [hb] at h;simp at h
        | true=>
          rw [hb] at h;simp only [cond_true] at h;obtain ⟨q1,q2,q3⟩:=qB r _ _ _ _ _ _ _ _ _ _ h;have hle:=Nat.le_of_ble_eq_true hb;refine ⟨fun c hc=>q1 c (by simp [hc]),fun e he=>q2 e (by simp [he]),fun d hh=>?_⟩;rw [q3 d (fun o ho=>hh o (by simp [ho])),jA (by omega)]
          have:d≠d0:=fun e=>hh o (by simp) (by rw [hd,e])
          simp [jl,this]
theorem IB {cf:eu} {ops:Array Oper} {ov:Ov} {n z:Nat}:∀(l:List Oper) (t t' : T RV) (ob CF : T ay) (cs cs' : List Bool) (es es' : List (RV×RV)) (rs rs' : List (List Nat×List Nat)),
 yJ cf ops ov n z l t ob cs es rs=some (t',CF,cs',es',rs')→
 (∀(i j:Nat) (p q:Oper) (d:Nat),l[i]? = some p→l[j]? = some q→p.dst=some d→q.dst=some d→i=j)→
 ∃(us:List (List (Nat×ay))) (rr:List (List Nat×List Nat)),us.length=l.length∧rs'=rs++rr∧rr.length=l.length∧CF.get=us.foldl aV ob.get∧
 ∀(j:Nat) (o:Oper),l[j]? = some o→∃(R:Nat→RV) (F:List Nat) (v:RV) (u:List (Nat×ay)) (c:List Bool) (e:List (RV×RV)),
  qR cf ops ov R (nO F ((us.take j).foldl aV ob.get)) (bD n z o) o=some (v,u,c,e)∧us[j]? = some u∧rr[j]? = some (F++bD n z o::(bD n z o+1)::bG u,bG u)∧
  lN ((us.take j).foldl aV ob.get) F (bD n z o::(bD n z o+1)::bG u)=true∧(∀x∈c,x∈cs')∧(∀x∈e,x∈es')∧
  (∀d,o.dst=some d→aY t' d=v)∧(∀d,(∀(i:Nat) (p:Oper),i < j→l[i]? = some p→p.dst≠some d)→R d=aY t d)∧
  (∀(i:Nat) (p:Oper) (d:Nat),i < j→l[i]? = some p→p.dst=some d→R d=aY t' d)
 | [],t,t',ob,CF,cs,cs',es,es',rs,rs',h,hnd=>by
   simp [yJ] at h;obtain ⟨rfl,rfl,rfl,rfl,rfl⟩:=h;exact ⟨[],[],rfl,by simp,rfl,rfl,fun j o hj=>by simp at hj⟩
 | o0::r,t,t',ob,CF,cs,cs',es,es',rs,rs',h,hnd=>by
   simp only [yJ] at h;split at h
   ·simp at h
   ·rename_i v u c e h1;cases hb0:(oW u&&lN ob.get (foot (aY t) ob.get o0) (bD n z o0::(bD n z o0+1)::bG u)) with
    | false=>rw [hb0] at h;simp at h
    | true=>
      rw [hb0] at h;simp only [cond_true] at h;simp only [Bool.and_eq_true] at hb0;have hset:=rY u ob hb0.1
      have hnd' : ∀(i j:Nat) (p q:Oper) (d:Nat),r[i]? = some p→r[j]? = some q→p.dst=some d→q.dst=some d→i=j:=fun i j p q d hi hj' hp hq=>by
       have:=hnd (i+1) (j+1) p q d (by simpa using hi) (by simpa using hj') hp hq;omega
      have tail:∀(t1:T RV),yJ cf ops ov n z r t1 (jm ob u) (cs++c) (es++e) (rs++[(foot (aY t) ob.get o0++bD n z o0::(bD n z o0+1)::bG u,bG u)])=some (t',CF,cs',es',rs')→
       (∀d,o0.dst≠some d→aY t1 d=aY t d)→(∀d,o0.dst=some d→aY t1 d=v)→
       ∃(us:List (List (Nat×ay))) (rr:List (List Nat×List Nat)),us.length=(o0::r).length∧rs'=rs++rr∧rr.length=(o0::r).length∧CF.get=us.foldl aV ob.get∧
       ∀(j:Nat) (o:Oper),(o0::r)[j]? = some o→∃(R:Nat→RV) (F:List Nat) (v:RV) (u:List (Nat×ay)) (c:List Bool) (e:List (RV×RV)),
        qR cf ops ov R (nO F ((us.take j).foldl aV ob.get)) (bD n z o) o=some (v,u,c,e)∧us[j]? = some u∧rr[j]? = some (F++bD n z o::(bD n z o+1)::bG u,bG u)∧
        lN ((us.take j).foldl aV ob.get) F (bD n z o::(bD n z o+1)::bG u)=true∧(∀x∈c,x∈cs')∧(∀x∈e,x∈es')∧
        (∀d,o.dst=some d→aY t' d=v)∧(∀d,(∀(i:Nat) (p:Oper),i < j→(o0::r)[i]? = some p→p.dst≠some d)→R d=aY t d)∧
        (∀(i:Nat) (p:Oper) (d:Nat),i < j→(o0::r)[i]? = some p→p.dst=some d→R d=aY t' d):=by
       intro t1 hr ht1 ht2;obtain ⟨m1,m2,m3⟩:=qB r _ _ _ _ _ _ _ _ _ _ hr;obtain ⟨us,rr,a1,a2,a3,a4,a5⟩:=IB r t1 t' _ _ _ _ _ _ _ _ hr hnd';refine ⟨u::us,(foot (aY t) ob.get o0++bD n z o0::(bD n z o0+1)::bG u,bG u)::rr,by simp [a1],by rw [a2];simp,by simp [a3],by rw [a4,hset];rfl,fun j o hj=>?_⟩;cases j with
       | zero=>
         simp at hj;subst hj;refine ⟨aY t,foot (aY t) ob.get o0,v,u,c,e,h1,rfl,rfl,hb0.2,fun x hx=>m1 x (by simp [hx]),fun x hx=>m2 x (by simp [hx]),fun d hd=>?_,fun d _=>rfl,fun i p d hi=>by omega⟩
         rw [m3 d (fun q hq qQ=>by
          obtain ⟨k,hk⟩:=List.mem_iff_getElem?.1 hq
          have:=hnd 0 (k+1) o0 q d rfl (by simpa using hk) hd qQ;omega)]
         exact ht2 d hd
       | succ j=>
         obtain ⟨R,F,v',u',c',e',k1,k2,k3,k4,k5,k6,k7,k8,k9⟩:=a5 j o (by simpa using hj);rw [hset] at k1 k4;refine ⟨R,F,v',u',c',e',by simpa using k1,by simpa using k2,by simpa using k3,by simpa using k4,k5,k6,k7,fun d hd=>?_,fun i p d hi hp wU=>?_⟩
         ·rw [k8 d (fun i p hi hp=>hd (i+1) p (by omega) (by simpa using hp))];exact ht1 d (hd 0 o0 (by omega) rfl)
         ·cases i with
          | zero=>
            simp at hp;subst hp
            rw [k8 d (fun i q hi hq qQ=>by
             have:=hnd 0 (i+1) o0 q d rfl (by simpa using hq) wU qQ;omega)]
            rw [m3 d (fun q hq qQ=>by
             obtain ⟨k,hk⟩:=List.mem_iff_getElem?.1 hq
             have:=hnd 0 (k+1) o0 q d rfl (by simpa using hk) wU qQ;omega)]
          | succ i=>exact k9 i p d (by omega) (by simpa using hp) wU
      cases hd:o0.dst with
      | none=>
        rw [hd] at h;simp only at h;exact tail t h (fun _ _=>rfl) (fun d hh=>by rw [hd] at hh;cases hh)
      | some d0=>
        rw [hd] at h;simp only at h;cases hb:Nat.ble d0 8000 with
        | false=>rw [hb] at h;simp at h
        | true=>
          rw [hb] at h;simp only [cond_true] at h;have hle:=Nat.le_of_ble_eq_true hb;refine tail _ h (fun d hh=>?_) (fun d hh=>?_)
          ·rw [jA (by omega)]
           have:d≠d0:=fun e=>hh (by rw [hd,e])
           simp [jl,this]
          ·rw [jA (by omega)];rw [hd] at hh;injection hh with hh;subst hh;simp [jl]
def hits (a b:List Nat):Bool:=a.any fun i=>b.any fun j=>Nat.beq j i
theorem xC {a b:List Nat} {i:Nat} (h1:i∈a) (h2:i∈b):hits a b=true:=
 List.any_eq_true.2 ⟨i,h1,List.any_eq_true.2 ⟨i,h2,vZ rfl⟩⟩
def pG (rs:List (List Nat×List Nat)) (ms:List Nat):Bool:=rs.zipIdx.all fun (rj,j)=>rs.zipIdx.all fun (rk,k)=>
 !(Nat.ble (k+1) j)||(!(hits rk.2 rj.1) && !(hits rj.2 rk.1))||LH (ms.getD j 0) k
theorem mE {rs:List (List Nat×List Nat)} {ms:List Nat} (h:pG rs ms=true) {j k:Nat} {rj rk:List Nat×List Nat} (hj:rs[j]? = some rj) (hk:rs[k]? = some rk) (hlt:k < j)
 (hh:hits rk.2 rj.1=true∨hits rj.2 rk.1=true):(ms.getD j 0).testBit k=true:=by
 have h1:=List.all_eq_true.1 h (rj,j) (by rw [List.mem_zipIdx_iff_getElem?];exact hj);have h2:=List.all_eq_true.1 h1 (rk,k) (by rw [List.mem_zipIdx_iff_getElem?];exact hk);simp only [Bool.or_eq_true,Bool.and_eq_true,Bool.not_eq_true'] at h2;rw [←CB];rcases h2 with (h2 | h2) | h2
 ·rw [Nat.ble_eq_true_of_le (by omega)] at h2;cases h2
 ·rcases hh with hh | hh
  ·rw [h2.1] at hh;cases hh
  ·rw [h2.2] at hh;cases hh
 ·exact h2
theorem tY {F:List Nat} {O:Tab} {i:Nat} (h:(F.any fun j=>Nat.beq j i)=true):nO F O i=O i:=by simp [nO,h]
theorem qC {F:List Nat} {O:Tab} {i:Nat} (h:(F.any fun j=>Nat.beq j i)=false):nO F O i=none:=by simp [nO,h]
theorem IC {F:List Nat} {i:Nat} (h:(F.any fun j=>Nat.beq j i)=true):i∈F:=by
 obtain ⟨j,h1,h2⟩:=List.any_eq_true.1 h
 have:=bV h2;subst this;exact h1
theorem Ay {cf:eu} {ops:Array Oper} {ov:Ov} {R R' : Nat→RV} {O O' : Tab} {sl:Nat} {o:Oper} {r:RV×List (Nat×ay)×List Bool×List (RV×RV)} (h:qR cf ops ov R O sl o=some r)
 (hg:guardOf R' ops o=guardOf R ops o) (hr:∀x∈o.op.operands,aL R x=aL R' x) (hO:Le O O') (hs:O' sl=O sl) (hs1:O' (sl+1)=O (sl+1)) (hk:∀p∈r.2.1,O' p.1=O p.1):qR cf ops ov R' O' sl o=some r:=by
 unfold qR at h ⊢;rw [hg];split at h
 ·cases h
 ·exact h
 ·split at h
  ·cases h
  ·rename_i res un hex
   have hu:r.2.1=res.upd:=by
    split at h
    ·injection h with h;subst h;rfl
    ·split at h<;>(injection h with h;subst h;rfl)
   rw [og (R:=R) (R':=R') hr] at hex;rw [JL hO hs hs1 hex (fun p hp=>hk p (by rw [hu];exact hp))];exact h
theorem Pn {cf:eu} (hcf:jI P cf) {ops:Array Oper} {ov:Ov} {s:bQ} {t t' : T RV} {ob CF : T ay} {cs:List Bool} {es:List (RV×RV)} {rs:List (List Nat×List Nat)} {z m:Nat} {κ:bB} {φ:bJ} {w:World} {a:Act}
 (hq:iQ ops=true) (hg:dx s.n ops=true) (hs:s.R=aY t) (hsO:s.O=ob.get) (hrun:yJ cf ops ov s.n z ops.toList t ob [] [] []=some (t',CF,cs,es,rs))
 (hrows:pG rs (zS ops.toList [])=true) (hc:∀c∈cs,c=true) (he:∀e∈es,iI e.1 e.2) (F0:aC κ φ w s a) :
 wpAny P .any ops (fun e a' w'=>e = .normal∧∃κ' φ',aC κ' φ' w' { s with R:=aY t',O:=CF.get } a'∧Fr κ w κ' w'∧nS m φ s.O φ' CF.get) ops.size (Array.replicate ops.size false) a w:=by
 have hnd:∀(i j:Nat) (p q:Oper) (d:Nat),ops.toList[i]? = some p→ops.toList[j]? = some q→p.dst=some d→q.dst=some d→i=j:=by
  intro i j p q d hi hj hp qQ;rcases ((bX hq (j:=j) (o:=q) (by simpa using hj)).2 i p d (by simpa using hi) hp).1 with h | h
  ·exact h
  ·exact absurd qQ h
 obtain ⟨us,rr,ul,hrs,rl,El,hat⟩:=IB ops.toList t t' ob CF [] cs [] es [] rs hrun hnd;rw [List.nil_append] at hrs;subst hrs;have hout:=(qB ops.toList t t' ob CF [] cs [] es [] rs hrun).2.2;have ZG:us.length=ops.size:=by simpa using ul
 have LJ:=qA (ops:=ops) ops.toList [] (fun i o hi=>by simpa using hi) (fun i k h=>by simp at h)
 have full:∀(L:Array Bool),L.size=ops.size→(∀i,i < ops.size→L.getD i true=true)→bN ops s.R (aY t') L=aY t'∧iB (fun i=>L.getD i false) 0 us s.O=CF.get:=by
  intro L hL hall
  have EG:∀i,i < ops.size→L.getD i false=true:=fun i hi=>by
   have hlt2:i < L.size:=by omega
   have:=hall i hi
   simp [Array.getD,hlt2] at this ⊢;exact this
  constructor
  ·funext d;unfold bN;split
   ·rfl
   ·rename_i hne;rw [hs,hout d (fun o ho hd=>hne ?_)];obtain ⟨i,hi⟩:=List.mem_iff_getElem?.1 ho;have hi' : ops[i]? = some o:=by simpa using hi
    exact ⟨i,o,hi',hd,EG i (Array.getElem?_eq_some_iff.1 hi').1⟩
  ·rw [El,hsO];funext i;have e1:=nN us 0 us.length ob.get;rw [List.take_length] at e1;rw [←e1];refine lM us 0 _ _ rfl (fun j u hu _=>?_);have hj:=(List.getElem?_eq_some_iff.1 hu).1;rw [Nat.zero_add,EG j (by omega)];simp [hj]
 have main:∀(fuel:Nat) (L:Array Bool) (κ1:bB) (φ1:bJ) (w1:World) (a1:Act),L.size=ops.size→L.toList.countP (· == false)=fuel→
  (∀(j:Nat) (o:Oper),ops[j]? = some o→L.getD j false=true→∀e∈o.after,Region.binds .any e=true→L.getD e.on false=true)→
  aC κ1 φ1 w1 { s with R:=bN ops s.R (aY t') L,O:=iB (fun i=>L.getD i false) 0 us s.O } a1→
  Fr κ w κ1 w1→nS m φ s.O φ1 (iB (fun i=>L.getD i false) 0 us s.O)→
  wpAny P .any ops (fun e a' w'=>e = .normal∧∃κ' φ',aC κ' φ' w' { s with R:=aY t',O:=CF.get } a'∧Fr κ w κ' w'∧nS m φ s.O φ' CF.get) fuel L a1 w1:=by
  intro fuel;induction fuel with
  | zero=>
    intro L κ1 φ1 w1 a1 hL hcnt hcl F hR hK;have hall:=lK hcnt;obtain ⟨f1,f2⟩:=full L hL (fun i hi=>hall i (by omega));rw [f1,f2] at F;rw [f2] at hK;refine ⟨?_,rfl,κ1,φ1,F,hR,hK⟩;cases hr:Region.ready .any ops L with
    | nil=>rfl
    | cons i r=>
      obtain ⟨o,_,h1,h2,_⟩:=mem_ready (md:=.any) (ops:=ops) (L:=L) (i:=i) (by rw [hr];simp);rw [hall i (by omega)] at h2;cases h2
  | succ fuel ih=>
    intro L κ1 φ1 w1 a1 hL hcnt hcl F hR hK;refine ⟨fun hr=>?_,fun j hj=>?_⟩
    ·have hall:=ready_nil hL (fun j o ho=>(bX hq ho).1) hr;obtain ⟨f1,f2⟩:=full L hL hall;rw [f1,f2] at F;rw [f2] at hK;exact ⟨rfl,κ1,φ1,F,hR,hK⟩
    ·obtain ⟨o,ho,hjn,hlj,iJ⟩:=mem_ready hj;obtain ⟨R,Fj,v,u,c,e,k1,k2,k3,k4,kc,ke,k5,k6,k7⟩:=hat j o (by simpa using ho);obtain ⟨s1,s2⟩:=bX hq ho
     have pq:L.getD j false=false:=by
      have:j < L.size:=by omega
      simp [Array.getD,this] at hlj ⊢;exact hlj
     have same:∀d,d∈looks o ops→bN ops s.R (aY t') L d=R d:=by
      intro d hd;by_cases hw:∃(i:Nat) (p:Oper),ops[i]? = some p∧p.dst=some d
      ·obtain ⟨i,p,hi,hp⟩:=hw;rcases (s2 i p d hi hp).2 hd with ⟨hij,ed,he1,he2,yE⟩ | ⟨hij,ed,he1,he2,yE⟩
       ·have Pm:L.getD i false=true:=by rw [←he2];exact iJ ed he1 yE
        unfold bN;rw [if_pos ⟨i,p,hi,hp,Pm⟩];exact (k7 i p d hij (by simpa using hi) hp).symm
       ·have only:∀(i' : Nat) (p' : Oper),ops[i']? = some p'→p'.dst=some d→i'=i:=fun i' p' h1 h2=>hnd i' i p' p d (by simpa using h1) (by simpa using hi) h2 hp;unfold bN
        rw [if_neg (fun ⟨i',p',h1,h2,h3⟩=>by
         have e:=only i' p' h1 h2;subst e;rw [h1] at hi;injection hi with hi;subst hi
         have:=hcl i' p' h1 h3 ed he1 yE
         rw [he2,pq] at this;cases this),hs]
        exact (k6 d (fun i' p' h0 h1 h2=>by have:=only i' p' (by simpa using h1) h2;omega)).symm
      ·unfold bN;rw [if_neg (fun ⟨i,p,hi,hp,_⟩=>hw ⟨i,p,hi,hp⟩),hs];exact (k6 d (fun i p _ hp wU=>hw ⟨i,p,by simpa using hp,wU⟩)).symm
     have CG:guardOf (bN ops s.R (aY t') L) ops o=guardOf R ops o:=by
      unfold guardOf;cases hgu:o.guard with
      | none=>rfl
      | some p=>
        obtain ⟨g,want⟩:=p;simp only;cases hog:ops[g]? with
        | none=>rfl
        | some gg=>
          simp only;cases hgd:gg.dst with
          | none=>rfl
          | some d=>
            simp only;rw [same d (by simp only [looks,List.mem_append];right;rw [hgu];simp only [hog,hgd];simp)]
     have LK:∀x∈o.op.operands,aL R x=aL (bN ops s.R (aY t') L) x:=fun x hx=>lJ fun d hd=>by
      subst hd;refine (same d ?_).symm;simp only [looks,List.mem_append,List.mem_filterMap];left;exact ⟨.tmp d,by simpa using hx,rfl⟩
     have rowAt:∀(x:Nat) (u' : List (Nat×ay)),us[x]? = some u'→∃tx,rs[x]? = some (tx,bG u')∧∀i∈bG u',i∈tx:=by
      intro x u' hu';have hx:=(List.getElem?_eq_some_iff.1 hu').1;have hox:ops.toList[x]? = some ops.toList[x]:=by simp [show x < ops.size by omega]
      obtain ⟨_,F',_,u2,_,_,_,g2,g3,_⟩:=hat x _ hox;rw [hu'] at g2;injection g2 with g2;subst g2;exact ⟨_,g3,fun i hi=>by simp [hi]⟩
     have before:∀(x:Nat) (u' : List (Nat×ay)) (i:Nat),x < j→us[x]? = some u'→i∈bG u'→i∈(Fj++bD s.n z o::(bD s.n z o+1)::bG u)→L.getD x false=true:=by
      intro x u' i hxj hu' hi ht;obtain ⟨tx,g1,_⟩:=rowAt x u' hu'
      exact (LJ j x (mE hrows k3 g1 hxj (.inl (xC hi ht)))).ready (L:=fun i=>L.getD i false) hcl (fun o' ho' e he hb=>by
       rw [ho] at ho';injection ho' with ho';subst ho';exact iJ e he hb)
     have after:∀(x:Nat) (u' : List (Nat×ay)) (i:Nat),j < x→us[x]? = some u'→i∈bG u'→i∈(Fj++bD s.n z o::(bD s.n z o+1)::bG u)→L.getD x false=false:=by
      intro x u' i hxj hu' hi ht;obtain ⟨tx,g1,_⟩:=rowAt x u' hu';cases hlx:L.getD x false with
      | false=>rfl
      | true=>
        have:=(LJ x j (mE hrows g1 k3 hxj (.inr (xC hi ht)))).done (L:=fun i=>L.getD i false) hcl hlx
        rw [pq] at this;cases this
     have agree:∀i,i∈(Fj++bD s.n z o::(bD s.n z o+1)::bG u)→iB (fun i=>L.getD i false) 0 us s.O i=(us.take j).foldl aV ob.get i:=by
      intro i hi;have e1:=nN us 0 j ob.get;rw [←e1,hsO];refine lM us 0 _ _ rfl (fun x u' hu' hk=>?_);rw [Nat.zero_add,Nat.zero_add];rcases Nat.lt_trichotomy x j with h | h | h
      ·rw [before x u' i h hu' hk hi];simp [h]
      ·subst h;rw [pq];simp
      ·rw [after x u' i h hu' hk hi]
       have:¬x < j:=by omega
       simp [this]
     have su:∀i,i∈(bD s.n z o::(bD s.n z o+1)::bG u)→iB (fun i=>L.getD i false) 0 us s.O i=nO Fj ((us.take j).foldl aV ob.get) i:=by
      intro i hi;rw [agree i (List.mem_append.2 (.inr hi))];cases hF:(Fj.any fun j=>Nat.beq j i) with
      | true=>rw [tY hF]
      | false=>
        rw [qC hF]
        have:=List.all_eq_true.1 k4 i hi
        rw [hF] at this;simpa using this
     have hev:qR cf ops ov (bN ops s.R (aY t') L) (iB (fun i=>L.getD i false) 0 us s.O) (bD s.n z o) o=some (v,u,c,e):=by
      refine Ay k1 CG LK (fun i p hp=>?_) (su _ (by simp)) (su _ (by simp)) (fun p hp=>su _ (by simp [bG];exact .inr (.inr ⟨p.2,hp⟩)));cases hF:(Fj.any fun j=>Nat.beq j i) with
      | true=>
        rw [tY hF] at hp;rw [agree i (List.mem_append.2 (.inl (IC hF)))];exact hp
      | false=>rw [qC hF] at hp;cases hp
     refine Iz hcf F hev (fun x hx=>hc x (kc x hx)) (fun x hx=>he x (ke x hx)) ho (bZ hg) (fun a' w' κ' φ' g1 g2 g3=>?_)
     have hget:∀i,(L.setIfInBounds j true).getD i false=if i=j then true else L.getD i false:=by
      intro i;simp only [Array.getD_eq_getD_getElem?,Array.getElem?_setIfInBounds];by_cases e:i=j
      ·subst e;have:i < L.size:=by omega
       simp [this]
      ·have:¬j=i:=fun h=>e h.symm
       simp [e,this]
     have hset:jc (bN ops s.R (aY t') L) o.dst v=bN ops s.R (aY t') (L.setIfInBounds j true):=by
      funext d;cases hd:o.dst with
      | none=>
        simp only [jc];unfold bN;congr 1;apply propext;constructor
        ·rintro ⟨i,p,h1,h2,h3⟩
         exact ⟨i,p,h1,h2,by rw [hget];split;rfl;exact h3⟩
        ·rintro ⟨i,p,h1,h2,h3⟩
         rw [hget] at h3;by_cases e:i=j
         ·subst e;rw [ho] at h1;injection h1 with h1;subst h1;rw [hd] at h2;cases h2
         ·rw [if_neg e] at h3;exact ⟨i,p,h1,h2,h3⟩
      | some d0=>
        simp only [jc,jl];by_cases e0:d=d0
        ·subst e0;rw [if_pos rfl];unfold bN;rw [if_pos ⟨j,o,ho,hd,by rw [hget];simp⟩,k5 d hd]
        ·rw [if_neg e0];unfold bN;congr 1;apply propext;constructor
         ·rintro ⟨i,p,h1,h2,h3⟩
          exact ⟨i,p,h1,h2,by rw [hget];split;rfl;exact h3⟩
         ·rintro ⟨i,p,h1,h2,h3⟩
          rw [hget] at h3;by_cases e:i=j
          ·subst e;rw [ho] at h1;injection h1 with h1;subst h1;rw [hd] at h2;injection h2 with h2;exact absurd h2.symm e0
          ·rw [if_neg e] at h3;exact ⟨i,p,h1,h2,h3⟩
     have fI:iB (fun i=>(L.setIfInBounds j true).getD i false) 0 us s.O=aV (iB (fun i=>L.getD i false) 0 us s.O) u:=by
      refine pF us 0 j u s.O k2 (by rw [Nat.zero_add];exact pq) (by rw [Nat.zero_add,hget];simp) (fun x hx=>by rw [hget,if_neg (by omega)]) (fun x u' hx hu' hl i hi hi'=>?_);rw [Nat.zero_add] at hl;rw [after x u' i hx hu' hi' (by simp [hi])] at hl;cases hl
     have hc2:=count_set (L:=L) (i:=j) (by omega) hlj;refine ih (L.setIfInBounds j true) κ' φ' w' a' (by simpa using hL) (by omega) (fun i o' ho' hi e' he' hb'=>?_) ?_ (hR.trans g2) ?_
     ·rw [hget] at hi ⊢;by_cases ej:e'.on=j
      ·rw [if_pos ej]
      ·rw [if_neg ej];by_cases ei:i=j
       ·subst ei;rw [ho] at ho';injection ho' with ho';subst ho';exact iJ e' he' hb'
       ·rw [if_neg ei] at hi;exact hcl i o' ho' hi e' he' hb'
     ·rw [←hset,fI];exact g1
     ·rw [fI];exact hK.trans (g3.m m)
 have e0:∀i,(Array.replicate ops.size false).getD i false=false:=fun i=>by
  by_cases hi:i < ops.size<;>simp [Array.getD,hi]
 have m0:iB (fun i=>(Array.replicate ops.size false).getD i false) 0 us s.O=s.O:=qz us 0 s.O (fun j _=>e0 _)
 have r0:bN ops s.R (aY t') (Array.replicate ops.size false)=s.R:=by
  funext d;unfold bN;rw [if_neg]
  rintro ⟨i,o,_,_,h3⟩
  rw [e0] at h3;cases h3
 refine main ops.size (Array.replicate ops.size false) κ φ w a (by simp) (by simp [List.countP_replicate]) (fun j o _ hj=>by rw [e0] at hj;cases hj) ?_ (Fr.refl _ _) ?_
 ·rw [m0,r0];exact F0
 ·rw [m0];exact nS.refl _ _ _
def Q8 (ob:T ay) (ops:Array Oper) (n step:Nat):Nat→Nat→Nat
 | 0,z=>z
 | f+1,z=>bif ops.toList.all fun o=>LB ob (bD n z o) then z else Q8 ob ops n step f (z+step)
def lQ (cf:eu) (ov:Ov) (ops:Array Oper) (draw:Bool) (ac:Acc):Option Acc:=
 bif dx ac.st.n ops then
  bif draw then
   bif iQ ops then
    match yF cf ops ov ac.st.objs.get ops.toList ac.st.regs [] [] with
    | some (t,cs,es)=>some { st:={ ac.st with regs:=t },cs:=ac.cs++cs,es:=ac.es++es }
    | none=>match yJ cf ops ov ac.st.n (Q8 ac.st.objs ops ac.st.n (32*(ac.st.n+1)) 400 64) ops.toList ac.st.regs ac.st.objs [] [] [] with
      | some (t,ob,cs,es,rs)=>bif pG rs (zS ops.toList []) then some { st:={ ac.st with regs:=t,objs:=ob },cs:=ac.cs++cs,es:=ac.es++es } else none
      | none=>none
   else none
  else oZ cf ops ov ops.toList ac
 else none
def drive (cf:eu) (ov:Ov):Nat→Nat→List It→Acc→Option (List It×Acc)
 | 0,_,_,_=>none
 | n+1,l,k,ac=>
   match k with
   | []=>some ([],ac)
   | .blk _::k=>drive cf ov n l k ac
   | .scp _::k=>drive cf ov n l k ac
   | .lp b::k=>match l with
     | 0=>some (.code b :: .lp b::k,ac)
     | l+1=>drive cf ov n l (.code b :: .lp b::k) ac
   | .code c::k=>match c with
     | .skip=>drive cf ov n l k ac
     | .seq x y=>drive cf ov n l (.code x :: .code y::k) ac
     | .region _ ops draw=>match lQ cf ov ops draw ac with
       | some jB=>drive cf ov n l k jB
       | none=>none
     | .cond c x y=>match aL (aY ac.st.regs) c with
       | .d (.bool t)=>match t with
         | true=>drive cf ov n l (.code x::k) ac
         | false=>drive cf ov n l (.code y::k) ac
       | _=>none
     | .block id b=>drive cf ov n l (.code b :: .blk id::k) ac
     | .loop b=>match l with
       | 0=>some (.code b :: .lp b::k,ac)
       | l+1=>drive cf ov n l (.code b :: .lp b::k) ac
     | .exit id=>match lH id k with
       | some k'=>drive cf ov n l k' ac
       | none=>none
     | .ret=>some ([],ac)
     | .label _=>drive cf ov n l k ac
     | .scope b=>drive cf ov n l (.code b :: .scp b::k) ac
     | _=>none
theorem rE {cf:eu} {ov:Ov} {ops:Array Oper} {draw:Bool} {ac jB : Acc} (h:lQ cf ov ops draw ac=some jB) :
 (∀c∈ac.cs,c∈jB.cs)∧(∀e∈ac.es,e∈jB.es)∧jB.st.m=ac.st.m∧jB.st.n=ac.st.n:=by
 unfold lQ at h;cases hg:dx ac.st.n ops with
 | false=>rw [hg] at h;simp at h
 | true=>
   rw [hg] at h;simp only [cond_true] at h;cases draw with
   | false=>simp only [cond_false] at h;exact vo _ h
   | true=>
     simp only [cond_true] at h;cases hq:iQ ops with
     | false=>rw [hq] at h;simp at h
     | true=>
       rw [hq] at h;simp only [cond_true] at h;split at h
       ·injection h with h;subst h;exact ⟨fun c hc=>by simp [hc],fun e he=>by simp [he],rfl,rfl⟩
       ·split at h
        ·rename_i t ob cs es rs hr;cases hw:pG rs (zS ops.toList []) with
         | false=>rw [hw] at h;simp at h
         | true=>
           rw [hw] at h;simp only [cond_true] at h;injection h with h;subst h;exact ⟨fun c hc=>by simp [hc],fun e he=>by simp [he],rfl,rfl⟩
        ·simp at h
theorem zT {cf:eu} (hcf:jI P cf) (fI:P.follows .mixedOrders=true) {ov:Ov} {ops:Array Oper} {draw:Bool} {ac jB : Acc} (h:lQ cf ov ops draw ac=some jB)
 (hc:∀c∈jB.cs,c=true) (he:∀e∈jB.es,iI e.1 e.2) {id:Nat} {k:List It} {m:Nat} {Q:bQ→Prop} (hk:WK P m k jB.st.den Q):WK P m (.code (.region id ops draw)::k) ac.st.den Q:=by
 unfold lQ at h;cases hg:dx ac.st.n ops with
 | false=>rw [hg] at h;simp at h
 | true=>
   rw [hg] at h;simp only [cond_true] at h;cases draw with
   | false=>
     simp only [cond_false] at h;refine WK.region (s':=jB.st.den) (fun κ φ w a F=>?_) hk
     have:=Au (Q:=fun e a' w'=>e = .normal∧∃κ' φ',aC κ' φ' w' jB.st.den a'∧Fr κ w κ' w'∧nS m φ ac.st.den.O φ' jB.st.den.O) hcf ops.toList 0 F h hc he hg (fun i o hi=>by simpa using hi)
      (fun a' w' κ' φ' g1 g2 g3=>⟨rfl,κ',φ',g1,g2,g3.m m⟩)
     rw [List.range_eq_range'];simpa using this
   | true=>
     simp only [cond_true] at h;cases hq:iQ ops with
     | false=>rw [hq] at h;simp at h
     | true=>
       rw [hq] at h;simp only [cond_true] at h;cases hr:yF cf ops ov ac.st.objs.get ops.toList ac.st.regs [] [] with
       | none=>
         rw [hr] at h;simp only at h;split at h
         ·rename_i t ob cs es rs hr2;cases hw:pG rs (zS ops.toList []) with
          | false=>rw [hw] at h;simp at h
          | true=>
            rw [hw] at h;simp only [cond_true] at h;injection h with h;subst h;refine WK.tN (s':={ ac.st.den with R:=aY t,O:=ob.get }) fI (fun κ φ w a F=>?_) hk;exact Pn (s:=ac.st.den) (t:=ac.st.regs) (ob:=ac.st.objs) hcf hq hg rfl rfl hr2 hw (fun c hcc=>hc c (by simp [hcc])) (fun e hee=>he e (by simp [hee])) F
         ·simp at h
       | some p=>
         obtain ⟨t,cs,es⟩:=p;rw [hr] at h;simp only [Option.some.injEq] at h;subst h;refine WK.tN (s':={ ac.st.den with R:=aY t }) fI (fun κ φ w a F=>?_) hk;have key:=JK (κ0:=κ) (w0:=w) (φ0:=φ) (m:=m) hcf (s:=ac.st.den) (t:=ac.st.regs) hq hg rfl hr (fun c hcc=>hc c (by simp [hcc])) (fun e hee=>he e (by simp [hee]))
         refine key ops.size (Array.replicate ops.size false) κ φ w a (by simp) (by simp [List.countP_replicate]) (fun j o hj hl=>by
          exfalso;by_cases hi:j < ops.size<;>simp [Array.getD,hi] at hl) ?_ (Fr.refl _ _) (nS.refl _ _ _)
         have:bN ops ac.st.den.R (aY t) (Array.replicate ops.size false)=ac.st.den.R:=by
          funext d;unfold bN;rw [if_neg]
          rintro ⟨i,o,_,_,h3⟩
          by_cases hi:i < ops.size<;>simp [Array.getD,hi] at h3
         rw [this];exact F
theorem gL {cf:eu} {ov:Ov}:∀(n l:Nat) (k k' : List It) (ac jB : Acc),drive cf ov n l k ac=some (k',jB)→(∀c∈ac.cs,c∈jB.cs)∧(∀e∈ac.es,e∈jB.es)
 | 0,_,_,_,_,_,h=>by simp [drive] at h
 | n+1,l,k,k',ac,jB,h=>by
   have base:∀{k k' : List It} {a a' : Acc},some (k,a)=some (k',a')→(∀c∈a.cs,c∈a'.cs)∧(∀e∈a.es,e∈a'.es):=by
    intro k k' a a' h;injection h with h;injection h with h1 h2;subst h2;exact ⟨fun _ h=>h,fun _ h=>h⟩
   unfold drive at h;split at h
   ·exact base h
   ·exact gL n l _ _ _ _ h
   ·exact gL n l _ _ _ _ h
   ·split at h
    ·exact base h
    ·exact gL n _ _ _ _ _ h
   ·split at h
    ·exact gL n l _ _ _ _ h
    ·exact gL n l _ _ _ _ h
    ·split at h
     ·rename_i a1 hs;obtain ⟨p1,p2,_⟩:=rE hs;obtain ⟨q1,q2⟩:=gL n l _ _ _ _ h;exact ⟨fun c hc=>q1 c (p1 c hc),fun e he=>q2 e (p2 e he)⟩
     ·simp at h
    ·split at h
     ·split at h<;>exact gL n l _ _ _ _ h
     ·simp at h
    ·exact gL n l _ _ _ _ h
    ·split at h
     ·exact base h
     ·exact gL n _ _ _ _ _ h
    ·split at h
     ·exact gL n l _ _ _ _ h
     ·simp at h
    ·exact base h
    ·exact gL n l _ _ _ _ h
    ·exact gL n l _ _ _ _ h
    ·simp at h
theorem fJ {cf:eu} (hcf:jI P cf) (fI:P.follows .mixedOrders=true) {ov:Ov} {m:Nat} {Q:bQ→Prop}:∀(n l:Nat) (k k' : List It) (ac jB : Acc),drive cf ov n l k ac=some (k',jB)→
 (∀c∈jB.cs,c=true)→(∀e∈jB.es,iI e.1 e.2)→(k'=[]→Q jB.st.den)→(k'≠[]→WK P m k' jB.st.den Q)→WK P m k ac.st.den Q
 | 0,_,_,_,_,_,h,_,_,_,_=>by simp [drive] at h
 | n+1,l,k,k',ac,jB,h,hc,he,h1,h2=>by
   unfold drive at h;split at h
   ·injection h with h;injection h with e1 e2;subst e1;subst e2;exact WK.done (h1 rfl)
   ·exact WK.blk (fJ hcf fI n l _ _ _ _ h hc he h1 h2)
   ·exact WK.scp (fJ hcf fI n l _ _ _ _ h hc he h1 h2)
   ·split at h
    ·injection h with h;injection h with e1 e2;subst e1;subst e2;exact WK.again (h2 (by simp))
    ·exact WK.again (fJ hcf fI n _ _ _ _ _ h hc he h1 h2)
   ·split at h
    ·exact WK.skip (fJ hcf fI n l _ _ _ _ h hc he h1 h2)
    ·exact WK.seq (fJ hcf fI n l _ _ _ _ h hc he h1 h2)
    ·split at h
     ·rename_i a1 hs;obtain ⟨q1,q2⟩:=gL n l _ _ _ _ h;exact zT hcf fI hs (fun c hcc=>hc c (q1 c hcc)) (fun e hee=>he e (q2 e hee)) (fJ hcf fI n l _ _ _ _ h hc he h1 h2)
     ·simp at h
    ·split at h
     ·rename_i t hcond;cases t with
      | true=>exact WK.cond (t:=true) hcond (fJ hcf fI n l _ _ _ _ h hc he h1 h2)
      | false=>exact WK.cond (t:=false) hcond (fJ hcf fI n l _ _ _ _ h hc he h1 h2)
     ·simp at h
    ·exact WK.block (fJ hcf fI n l _ _ _ _ h hc he h1 h2)
    ·split at h
     ·injection h with h;injection h with e1 e2;subst e1;subst e2;exact WK.enter (h2 (by simp))
     ·exact WK.enter (fJ hcf fI n _ _ _ _ _ h hc he h1 h2)
    ·split at h
     ·rename_i k1 hex;exact WK.exit hex (fJ hcf fI n l _ _ _ _ h hc he h1 h2)
     ·simp at h
    ·injection h with h;injection h with e1 e2;subst e1;subst e2;exact WK.ret (h1 rfl)
    ·exact WK.label (fJ hcf fI n l _ _ _ _ h hc he h1 h2)
    ·exact WK.scope (fJ hcf fI n l _ _ _ _ h hc he h1 h2)
    ·simp at h
theorem aC.R8 {κ:bB} {φ:bJ} {w:World} {s:bQ} {a:Act} (F:aC κ φ w s a) {t sl ty sz sz' : Nat} (ht:s.R t = .d (.aF sz' [] true)) (hs:s.O sl=none) :
 aC κ (iE φ sl .nil) w { s with R:=jl s.R t (.own sl sz),O:=bA s.O sl (some (.arr ty sz [])) } a∧Kp φ s.O (iE φ sl .nil) (bA s.O sl (some (.arr ty sz []))):=by
 have hun:φ sl = .un:=by have:=F.objs sl;rw [hs] at this;exact this
 obtain ⟨q1,q2,_⟩:=F.wS (i:=sl) (p:=.arr ty sz []) (κ':=κ) (φ':=iE φ sl .nil) (w':=w) (Nat.le_refl _) (fun _ h=>h) (fun _ _ _ _ h=>h) (fun _ _ h=>h) (fun _ _ _ _=>rfl)
  (fun j hj=>mh _ _ hj) (fun h=>absurd hun h) (fun _ c _ fz hc=>⟨c,fz,hc,rfl⟩) (fun h=>absurd hun h) F.bnd.lt (fun M=>.inl ⟨aP _ _ _,rfl⟩)
 refine ⟨⟨fun x=>?_,q1.objs,q1.bnd,q1.n,q1.df⟩,q2.kp⟩;by_cases e:x=t
 ·subst e;simp only [jl,if_true];have r:=F.regs x;rw [ht] at r;generalize a.tmps.getD x undef=v at r;cases r with
  | d hr=>
    cases hr with
    | iX hf=>have:=(hf rfl).1;subst this;exact .gJ (aP _ _ _)
    | aF _ _ hf hc _ _ _=>have:=(hf rfl).1;simp only [List.length_nil] at this;subst this;exact .gJ (aP _ _ _)
 ·simp only [jl,if_neg e];exact q1.regs x
def jJ (olds mF:List Nat) (i:Nat):Option Nat:=
 match idx i olds 0 with
 | some k=>mF[k]?
 | none=>none
theorem sw {olds mF:List Nat} {i j:Nat} (h:jJ olds mF i=some j):∃k:Nat,olds[k]? = some i∧mF[k]? = some j:=by
 unfold jJ at h;cases e:idx i olds 0 with
 | none=>rw [e] at h;simp at h
 | some k=>rw [e] at h;exact ⟨k,by have:=(kJ i olds 0 k e).2;simpa using this,h⟩
theorem tZ {olds mF:List Nat} (hn:nodupB olds=true) {i j k:Nat} (h1:olds[k]? = some i) (h2:mF[k]? = some j):jJ olds mF i=some j:=by
 unfold jJ;obtain ⟨k',hk'⟩:=kr i olds 0 (List.mem_iff_getElem?.2 ⟨k,h1⟩)
 have:=(kJ i olds 0 k' hk').2
 simp only [Nat.sub_zero] at this;rw [hk',jy olds hn k' k i this h1];exact h2
theorem CJ {ρ:Nat→Option Nat} {p q:ay} (h:p.ren ρ=some q):ay.dn (some q)=ay.dn (some p):=by
 cases p<;>simp only [ay.ren] at h<;>try (injection h with h;subst h;rfl)
 ·split at h
  ·injection h with h;subst h;rfl
  ·simp at h
 ·split at h
  ·rename_i hm;injection h with h;subst h;simp only [ay.dn,(dZ _ _ _ hm).1]
  ·simp at h
 ·split at h
  ·injection h with h;subst h;rfl
  ·simp at h
theorem aC.keep {κ:bB} {φ:bJ} {w:World} {s s' : bQ} {a:Act} (F:aC κ φ w s a) {olds mF:List Nat} (hl:mF.length=olds.length) (h1:nodupB olds=true) (h2:nodupB mF=true)
 (hn:s'.n=s.n) (hdf:s.df=[]) (ZN : s'.df=[]) (hR:∀t,s'.R t = .bot∨RV.ren (jJ olds mF) 6 (s.R t)=some (s'.R t))
 (hO:∀(k i j:Nat),olds[k]? = some i→mF[k]? = some j→∃p q,s.O i=some p∧p.ren (jJ olds mF)=some q∧s'.O j=some q) (hO' : ∀j,j∉mF→s'.O j=none) :
 ∃κ' φ',aC κ' φ' w s' a∧Fr κ w κ' w∧∀(m:Nat),(∀i,i < m→jJ olds mF i=some i)→nS m φ s.O φ' s'.O:=by
 let κ' : bB:=fun b=>match κ b with
  | .dS=>.dS
  | .own i=>match jJ olds mF i with | some j=>.own j | none=>.kW
  | .kW=>.kW
 let φ' : bJ:=fun j=>match jJ mF olds j with | some i=>φ i | none=>.un
 have inv:∀i j,jJ olds mF i=some j→jJ mF olds j=some i:=fun i j h=>by
  obtain ⟨k,e1,e2⟩:=sw h;exact tZ h2 e2 e1
 have iY:∀b,κ b = .dS→κ' b = .dS:=fun b hb=>by simp only [κ',hb]
 have hφ:∀i j,jJ olds mF i=some j→φ i≠.un→φ' j=φ i:=fun i j h _=>by simp only [φ',inv i j h]
 have hlen:∀i j n,jJ olds mF i=some j→φ i≠.un→ay.dn (s'.O j)=some n→ay.dn (s.O i)=some n:=by
  intro i j n h _ hn;obtain ⟨k,e1,e2⟩:=sw h;obtain ⟨p,q,g1,g2,g3⟩:=hO k i j e1 e2;rw [g1,←CJ g2,←g3];exact hn
 refine ⟨κ',φ',⟨fun t=>?_,fun j=>?_,F.bnd.same (fun b e=>by simp only [κ',e]) (fun b e=>by simp only [κ',e]),by rw [hn];exact F.n,by have h0:=F.df;rw [hdf] at h0;rw [ZN,h0.nil];trivial⟩,
  ⟨Nat.le_refl _,fun b hb=>⟨iY b hb,rfl⟩,fun b _ hb=>⟨by simp only [κ',hb],rfl⟩,fun _ c _ fz hc=>⟨c,fz,hc,rfl⟩,rfl,rfl⟩,fun m hm=>⟨fun i hi hu=>hφ i i (hm i hi) hu,fun i n hi hu hn=>hlen i i n (hm i hi) hu hn⟩⟩
 ·rcases hR t with e | e
  ·rw [e];exact .bot _
  ·exact bE.ren iY hφ hlen 6 _ _ _ e (F.regs t)
 ·by_cases hj:j∈mF
  ·obtain ⟨k,hk⟩:=List.mem_iff_getElem?.1 hj;have hlt:=(List.getElem?_eq_some_iff.1 hk).1;have hlt2:k < olds.length:=by omega
   have hi:olds[k]? = some olds[k]:=by simp [hlt2]
   obtain ⟨p,q,g1,g2,g3⟩:=hO k _ j hi hk;rw [g3];have ho:=F.objs olds[k];rw [g1] at ho;exact OR.ren iY hφ hlen (tZ h1 hi hk) (fun b hb=>by simp only [κ',hb,tZ h1 hi hk]) g2 ho
  ·rw [hO' j hj]
   show φ' j = .un
   simp only [φ'];cases e:jJ mF olds j with
   | none=>rfl
   | some i=>
     obtain ⟨k,e1,_⟩:=sw e;exact absurd (List.mem_iff_getElem?.2 ⟨k,e1⟩) hj
structure Post where
 oL:List (Nat×Nat×Nat×Nat):=[]
 live:List Nat
 olds:List Nat:=[]
 mF:List Nat:=[]
def pI:List (Nat×Nat×Nat×Nat)→iU→Option iU
 | [],st=>some st
 | (t,sl,ty,sz)::r,st=>match aY st.regs t,st.objs.get sl with
   | .d (.aF _ [] true),none=>bif Nat.ble t 8000&&Nat.ble sl 65000 then pI r { st with regs:=st.regs.set t (some (.own sl sz)),objs:=st.objs.set sl (some (.arr ty sz [])) } else none
   | _,_=>none
def uf {α:Type}:List Nat→List α→List (Nat×α)
 | i::r,x::q=>(i,x)::uf r q
 | _,_=>[]
def CK (p:Post) (st:iU):Option iU:=
 let olds:=List.range st.m++p.olds
 let mF:=List.range st.m++p.mF
 bif Nat.beq mF.length olds.length&&nodupB olds&&nodupB mF&&nodupB p.live&&(p.live.all fun t=>Nat.ble t 8000)&&(mF.all fun t=>Nat.ble t 65000) then
  match eX (fun t=>RV.ren (jJ olds mF) 6 (aY st.regs t)) p.live,eX (fun i=>match st.objs.get i with | some q=>q.ren (jJ olds mF) | none=>none) olds with
  | some rs,some os=>some { st with regs:=T.mk (uf p.live rs),objs:=T.mk (uf mF os) }
  | _,_=>none
 else none
def yK (p:Post) (st:iU):Option iU:=
 match pI p.oL st with
 | some st'=>CK p st'
 | none=>none
theorem Gp {α:Type}:∀(l:List Nat) (v:List α),v.length=l.length→nodupB l=true→(l.all fun t=>Nat.ble t 65000)=true→
 (∀(k i:Nat),l[k]? = some i→(T.mk (uf l v)).get i=v[k]?)∧(∀i,i∉l→(T.mk (uf l v)).get i=none)
 | [],v,hl,_,_=>by
   have:v=[]:=List.eq_nil_of_length_eq_zero (by simpa using hl)
   subst this;exact ⟨by simp,fun i _=>rfl⟩
 | i0::l,[],hl,_,_=>by simp at hl
 | i0::l,x::v,hl,hn,hb=>by
   simp only [nodupB,Bool.and_eq_true,Bool.not_eq_true'] at hn;simp only [List.all_cons,Bool.and_eq_true] at hb;obtain ⟨h1,h2⟩:=Gp l v (by simpa using hl) hn.2 hb.2;have hlt:=Nat.le_of_ble_eq_true hb.1
   have hni:i0∉l:=fun hm=>by
    have:=List.any_eq_false.1 hn.1 i0 hm
    rw [vZ rfl] at this;simp at this
   refine ⟨fun k i hk=>?_,fun i hi=>?_⟩
   ·cases k with
    | zero=>simp at hk;subst hk;simp only [uf,T.mk];rw [T.get_set_same _ (by omega)];rfl
    | succ k=>
      simp only [List.getElem?_cons_succ] at hk;have hne:i≠i0:=fun e=>by subst e;exact hni (List.mem_iff_getElem?.2 ⟨k,hk⟩)
      simp only [uf,T.mk];rw [T.bU _ hne,h1 k i hk];rfl
   ·simp only [List.mem_cons,not_or] at hi;simp only [uf,T.mk];rw [T.bU _ hi.1,h2 i hi.2]
theorem Az:∀(l:List (Nat×Nat×Nat×Nat)) {st st' : iU},pI l st=some st'→(∀κ φ w a,aC κ φ w st.den a→∃φ',aC κ φ' w st'.den a∧Kp φ st.den.O φ' st'.den.O)∧st'.m=st.m∧st'.n=st.n
 | [],st,st',h=>by simp [pI] at h;subst h;exact ⟨fun κ φ w a F=>⟨φ,F,Kp.refl _ _⟩,rfl,rfl⟩
 | (t,sl,ty,sz)::r,st,st',h=>by
   simp only [pI] at h;split at h
   ·rename_i sz' hr ho;cases hb:(Nat.ble t 8000&&Nat.ble sl 65000) with
    | false=>rw [hb] at h;simp at h
    | true=>
      rw [hb] at h;simp only [cond_true] at h;simp only [Bool.and_eq_true] at hb;have b1:=Nat.le_of_ble_eq_true hb.1;have b2:=Nat.le_of_ble_eq_true hb.2;obtain ⟨h1,h2,h3⟩:=Az r h;refine ⟨fun κ φ w a F=>?_,h2,h3⟩;obtain ⟨g1,g2⟩:=aC.R8 (s:=st.den) F (t:=t) (sl:=sl) (ty:=ty) (sz:=sz) hr ho
      have e:({ st with regs:=st.regs.set t (some (.own sl sz)),objs:=st.objs.set sl (some (.arr ty sz [])) }:iU).den = { st.den with R:=jl st.den.R t (.own sl sz),O:=bA st.den.O sl (some (.arr ty sz [])) }:=by
       simp only [iU.den];rw [jA (by omega)];congr 1;funext j;by_cases e:j=sl
       ·subst e;rw [T.get_set_same _ (by omega),bH]
       ·rw [T.bU _ e,dM _ _ e]
      rw [←e] at g1;obtain ⟨φ',g3,g4⟩:=h1 κ _ w a g1;rw [e] at g4;exact ⟨φ',g3,g2.trans g4⟩
   ·simp at h
theorem JM {p:Post} {st st' : iU} (h:yK p st=some st') {k:List It} {Q:bQ→Prop} (hk:WK P st.m k st'.den Q):WK P st.m k st.den Q:=by
 unfold yK at h;cases h1:pI p.oL st with
 | none=>rw [h1] at h;simp at h
 | some s1=>
   rw [h1] at h;simp only at h;obtain ⟨n1,n2,n3⟩:=Az _ h1;unfold CK at h;simp only at h;generalize ho:List.range s1.m++p.olds=olds at h;generalize hw:List.range s1.m++p.mF=mF at h;cases hg:(Nat.beq mF.length olds.length&&nodupB olds&&nodupB mF&&nodupB p.live&&(p.live.all fun t=>Nat.ble t 8000)&&(mF.all fun t=>Nat.ble t 65000)) with
   | false=>rw [hg] at h;simp at h
   | true=>
     rw [hg] at h;simp only [cond_true] at h;simp only [Bool.and_eq_true] at hg;obtain ⟨⟨⟨⟨⟨g1,g2⟩,g3⟩,g4⟩,g5⟩,g6⟩:=hg;have g1:=bV g1;cases hr:eX (fun t=>RV.ren (jJ olds mF) 6 (aY s1.regs t)) p.live with
     | none=>rw [hr] at h;simp at h
     | some rs=>
       cases hos:eX (fun i=>match s1.objs.get i with | some q=>q.ren (jJ olds mF) | none=>none) olds with
       | none=>rw [hr,hos] at h;simp at h
       | some os=>
         rw [hr,hos] at h;simp only [Option.some.injEq] at h;subst h;obtain ⟨r1,r2⟩:=dZ _ _ _ hr;obtain ⟨o1,o2⟩:=dZ _ _ _ hos
         have g5' : (p.live.all fun t=>Nat.ble t 65000)=true:=by
          rw [List.all_eq_true] at g5 ⊢;intro t ht
          have:=Nat.le_of_ble_eq_true (g5 t ht)
          exact Nat.ble_eq_true_of_le (by omega)
         obtain ⟨q1,q2⟩:=Gp p.live rs r1 g4 g5';obtain ⟨q3,q4⟩:=Gp mF os (by omega) g3 g6;refine hk.state fun κ φ w a F=>?_;obtain ⟨φ1,F1,K1⟩:=n1 κ φ w a F
         obtain ⟨κ2,φ2,F2,R2,K2⟩:=F1.keep (s':=({ s1 with regs:=T.mk (uf p.live rs),objs:=T.mk (uf mF os) }:iU).den) g1 g2 g3 rfl rfl rfl (fun t=>by
          by_cases ht:t∈p.live
          ·right;obtain ⟨k,hk⟩:=List.mem_iff_getElem?.1 ht;have hlt:=(List.getElem?_eq_some_iff.1 hk).1;have hlt2:k < rs.length:=by omega
           have hrs:rs[k]? = some rs[k]:=by simp [hlt2]
           have e:aY (T.mk (uf p.live rs)) t=rs[k]:=by unfold aY;rw [q1 k t hk,hrs]
           show RV.ren (jJ olds mF) 6 (aY s1.regs t)=some (aY (T.mk (uf p.live rs)) t)
           rw [e];exact r2 k t _ hk hrs
          ·left
           show aY (T.mk (uf p.live rs)) t = .bot
           unfold aY;rw [q2 t ht]) (fun k i j hi hj=>by
          have hlt:=(List.getElem?_eq_some_iff.1 hi).1;have hlt2:k < os.length:=by omega
          have hq:os[k]? = some os[k]:=by simp [hlt2]
          have:=o2 k i _ hi hq
          cases e:s1.objs.get i with
          | none=>simp only [e] at this;cases this
          | some pp=>simp only [e] at this;exact ⟨pp,_,e,this,by show (T.mk (uf mF os)).get j=_;rw [q3 k j hj,hq]⟩) (fun j hj=>q4 j hj)
         refine ⟨κ2,φ2,F2,R2,(K1.m st.m).trans (K2 st.m fun i hi=>?_)⟩;have hi' : i < s1.m:=by omega
         refine tZ (k:=i) g2 ?_ ?_
         ·rw [←ho,List.getElem?_append_left (by simpa using hi')];simp [hi']
         ·rw [←hw,List.getElem?_append_left (by simpa using hi')];simp [hi']
def mV (E:Env) (R:Nat→RV) (O:Tab):ResultVar→Option RV
 | .tmp t=>some (R t)
 | .cell a ty=>match mK E O ty (R a) with
   | some res=>bif res.upd.isEmpty&&res.conds.isEmpty then some res.val else none
   | none=>none
def one (vs:List RV):RV:=
 match vs with
 | [v]=>v
 | _=>.aZ vs
def finish (E:Env) (jP:Bool) (m:Nat) (rs:List ResultVar) (R:Nat→RV) (O:Tab):Option (RV×List ay×List Bool):=
 match eX (mV E R O) rs with
 | none=>none
 | some vs=>match (bif jP then fD O vs else some (vs,[],[])) with
   | none=>none
   | some (vs1,u,c)=>
     let r:=one vs1
     let ps:=List.range m++(reach (aV O u) 400 (r.refs 6++(List.range m).flatMap fun i=>tF (aV O u i)) []).filter (fun i=>Nat.ble m i)
     bif nodupB ps then
      match r.ren (fun i=>idx i ps 0) 6,eX (fun i=>match aV O u i with | some p=>p.ren (fun i=>idx i ps 0) | none=>none) ps with
      | some r',some os=>some (r',os,c)
      | _,_=>none
     else none
theorem JN {κ:bB} {φ:bJ} {w:World} {s:bQ} {a:Act} (F:aC κ φ w s a) {x:ResultVar} {v:RV} (h:mV (Env.of P) s.R s.O x=some v) :
 ∃u,((match x with
  | .tmp t=>pure (a.tmps.getD t undef)
  | .cell b t=>do loadVar t (←asAddr (a.tmps.getD b undef))):Sem Value).run P w = .ok u w∧bE κ φ s.O w.heap v u:=by
 cases x with
 | tmp t=>simp [mV] at h;subst h;exact ⟨_,rfl,F.regs t⟩
 | cell b t=>
   simp only [mV] at h;cases hx:mK (Env.of P) s.O t (s.R b) with
   | none=>rw [hx] at h;simp at h
   | some res=>
     rw [hx] at h;simp only at h;cases hg:(res.upd.isEmpty&&res.conds.isEmpty) with
     | false=>rw [hg] at h;simp at h
     | true=>
       rw [hg] at h;simp only [cond_true,Option.some.injEq] at h;subst h;simp only [Bool.and_eq_true,List.isEmpty_iff] at hg;obtain ⟨_,u,h1,h2⟩:=D9 F hx (by rw [hg.2];simp) (F.regs b);refine ⟨u,?_,h2⟩
       have hp:∃ad,a.tmps.getD b undef = .pointer (some ad):=by
        have r:=F.regs b;unfold mK at hx;cases hz:(Env.of P).size t with
        | none=>rw [hz] at hx;simp at hx
        | some z=>
          rw [hz] at hx;generalize a.tmps.getD b undef=v at r;cases hR:s.R b<;>rw [hR] at hx r<;>(try simp only at hx)<;>(try (simp at hx;done))<;>(cases r;exact ⟨_,rfl⟩)
       obtain ⟨ad,hp⟩:=hp
       show (do loadVar t (←asAddr (a.tmps.getD b undef)):Sem Value).run P w = .ok u w
       rw [hp] at h1 ⊢;simpa [Instr.loadAt,Instr.sureAddr,asAddr] using h1
def JO (tmps:Array Value) (x:ResultVar):Sem Value:=
 match x with
 | .tmp t=>pure (tmps.getD t undef)
 | .cell a t=>do loadVar t (←asAddr (tmps.getD a undef))
theorem sD {κ:bB} {φ:bJ} {w:World} {s:bQ} {a:Act} (F:aC κ φ w s a) (g:ResultVar→Sem Value) (hg1:∀t,g (.tmp t)=pure (a.tmps.getD t undef))
 (hg2:∀b t,g (.cell b t)=(do loadVar t (←asAddr (a.tmps.getD b undef)))):∀(rs:List ResultVar) (vs:List RV),eX (mV (Env.of P) s.R s.O) rs=some vs→
 ∃us:List Value,(rs.mapM g).run P w = .ok us w∧us.length=vs.length∧∀(i:Nat) (x:RV) (v:Value),vs[i]? = some x→us[i]? = some v→bE κ φ s.O w.heap x v
 | [],vs,h=>by simp [eX] at h;subst h;exact ⟨[],rfl,rfl,by simp⟩
 | x::rs,vs,h=>by
   simp only [eX] at h;cases h1:mV (Env.of P) s.R s.O x with
   | none=>rw [h1] at h;simp at h
   | some v=>
     cases h2:eX (mV (Env.of P) s.R s.O) rs with
     | none=>rw [h1,h2] at h;simp at h
     | some q=>
       rw [h1,h2] at h;simp at h;subst h;obtain ⟨u,e1,e2⟩:=JN F h1
       have e1' : (g x).run P w = .ok u w:=by
        cases x with
        | tmp t=>rw [hg1];exact e1
        | cell b t=>rw [hg2];exact e1
       obtain ⟨us,g1,g2,g3⟩:=sD F g hg1 hg2 rs q h2;refine ⟨u::us,?_,by simp [g2],fun i y w' hy hw=>?_⟩
       ·simp [List.mapM_cons,e1',g1]
       ·cases i with
        | zero=>simp at hy hw;subst hy;subst hw;exact e2
        | succ i=>exact g3 i y w' (by simpa using hy) (by simpa using hw)
theorem LM {κ:bB} {φ:bJ} {O:Tab} {h:Heap} {vs:List RV} {us:List Value} (hl:us.length=vs.length) (hr:∀(i:Nat) (x:RV) (v:Value),vs[i]? = some x→us[i]? = some v→bE κ φ O h x v) :
 bE κ φ O h (one vs) (if hh:us.toArray.size=1 then us.toArray[0] else .tuple us.toArray):=by
 cases vs with
 | nil=>
   have:us=[]:=List.eq_nil_of_length_eq_zero (by simpa using hl)
   subst this;simp only [one];exact .aZ rfl (by simp)
 | cons v vs=>
   cases us with
   | nil=>simp at hl
   | cons u us=>
     cases vs with
     | nil=>
       have:us=[]:=List.eq_nil_of_length_eq_zero (by simpa using hl)
       subst this;simp only [one];exact hr 0 v u rfl rfl
     | cons v2 vs=>
       have hne:¬(u::us).toArray.size=1:=by simp at hl ⊢;intro e;subst e;simp at hl
       rw [dif_neg hne]
       show bE κ φ O h (.aZ (v::v2::vs)) _
       exact .aZ (by simpa using hl) (fun i x v hx hv=>hr i x v hx (by simpa using hv))
theorem rF {f:FuncId} {fn:Func} {c:Code} {args:Array Value} {w:World} {R:Ending→World→Prop}
 (hf:P.funcs[f]? = some fn) (hb:fn.body=some c)
 (h:∀(b:Frame) (cs:List Frame),∃e a' w',(e = .normal∨e = .ret)∧(a'.defers=[]∧∃v,(results fn a'.tmps).run P w' = .ok v w'∧R (.returned v) w')∧
   Arrives P (lone (b.at { tmps:=args++Array.replicate (fn.ntmps-args.size) undef,defers:=[] } [.code c]) cs w) b [] cs e a' w'):Calls P f args w R:=by
 intro cs
 let b:Frame:={ (default:Frame) with fn:=f,kind:=.normal }
 have henter:Frame.enter P f args .normal=b.at { tmps:=args++Array.replicate (fn.ntmps-args.size) undef,defers:=[] } [.code c]:=by
  simp [Frame.enter,Frame.at,hf,hb,b]
 obtain ⟨e,a',w',he,⟨hd,v,hr,hR⟩,harr⟩:=h b cs;rw [←henter] at harr;rcases he with rfl | rfl
 ·exact ⟨.returned v,w',_,hR,Steps.trans harr (.one step_end),rfl,rfl,hd,rfl,fn,hf,hr⟩
 ·obtain ⟨todo,hs⟩:=harr;exact ⟨.returned v,w',_,hR,hs,rfl,rfl,hd,rfl,fn,hf,hr⟩
theorem Po {f:FuncId} {fn:Func} {body:Code} {args:List RV} {objs:List ay} {jP:Bool} {Q:RV→List ay→Prop} (hf:P.funcs[f]? = some fn) (hb:fn.body=some body) (hn:args.length≤fn.ntmps)
 (h:WK P objs.length [.code body] { n:=fn.ntmps,R:=fun t=>(args[t]?).getD .bot,O:=aR objs }
   (fun s=>s.df=[]∧∃r bL c,finish (Env.of P) jP objs.length fn.results.toList s.R s.O=some (r,bL,c)∧(∀b∈c,b=true)∧Q r bL)):C P f args objs Q:=by
 intro κ φ w vs h1 h2 h3 h4;refine rF hf hb ?_
 have F:aC κ φ w { n:=fn.ntmps,R:=fun t=>(args[t]?).getD .bot,O:=aR objs } { tmps:=vs++Array.replicate (fn.ntmps-vs.size) undef,defers:=[] }:=by
  refine ⟨fun t=>?_,h1,h2,by simp;omega,trivial⟩;by_cases ht:t < args.length
  ·have e1:args[t]? = some args[t]:=by simp [ht]
   have e2:vs[t]? = some vs[t]:=by simp [show t < vs.size by omega]
   have e3:(vs++Array.replicate (fn.ntmps-vs.size) undef).getD t undef=vs[t]:=by
    rw [Array.getD_eq_getD_getElem?,Array.getElem?_append_left (by omega),e2];rfl
   simp only [e1,Option.getD_some,e3];exact h4 t _ _ e1 e2
  ·have e1:args[t]? = none:=by simp;omega
   simp only [e1,Option.getD_none];exact .bot _
 intro b cs;obtain ⟨e,a',w',κ',φ',s',he,⟨hdf,r,bL,c,hfin,hcs,hQ⟩,F',R',K',harr⟩:=h κ φ w _ F b cs;refine ⟨e,a',w',he,⟨(by have h0:=F'.df;rw [hdf] at h0;exact h0.nil),?_⟩,harr⟩;unfold finish at hfin;cases hres:eX (mV (Env.of P) s'.R s'.O) fn.results.toList with
 | none=>rw [hres] at hfin;simp at hfin
 | some LP=>
   rw [hres] at hfin;simp only at hfin
   have hrun:∃us:List Value,(results fn a'.tmps).run P w' = .ok (if hh:us.toArray.size=1 then us.toArray[0] else .tuple us.toArray) w'∧us.length=LP.length∧
    ∀(i:Nat) (x:RV) (v:Value),LP[i]? = some x→us[i]? = some v→bE κ' φ' s'.O w'.heap x v:=by
    have hdef:results fn a'.tmps=(do
     let vs ←fn.results.mapM (JO a'.tmps)
     pure (if h:vs.size=1 then vs[0] else .tuple vs)):=by
     unfold results JO;rfl
    obtain ⟨us,u1,u2,u3⟩:=sD F' (JO a'.tmps) (fun _=>rfl) (fun _ _=>rfl) _ LP hres;refine ⟨us,?_,u2,u3⟩;rw [hdef];simp only [Sem.run_bind];rw [Array.mapM_eq_mapM_toList];simp only [Sem.run_map];rw [u1];rfl
   obtain ⟨us,hrun,u2,u3⟩:=hrun;cases hp:(bif jP then fD s'.O LP else some (LP,[],[])) with
   | none=>rw [hp] at hfin;simp at hfin
   | some p3=>
     obtain ⟨vs1,u,cc⟩:=p3;rw [hp] at hfin;simp only at hfin;generalize hps:List.range objs.length++(reach (aV s'.O u) 400 ((one vs1).refs 6++(List.range objs.length).flatMap fun i=>tF (aV s'.O u i)) []).filter (fun i=>Nat.ble objs.length i)=ps at hfin;cases hnd:nodupB ps with
     | false=>rw [hnd] at hfin;simp at hfin
     | true=>
       rw [hnd] at hfin;simp only [cond_true] at hfin;cases hr1:(one vs1).ren (fun i=>idx i ps 0) 6 with
       | none=>rw [hr1] at hfin;simp at hfin
       | some r'=>
         cases ho1:eX (fun i=>match aV s'.O u i with | some p=>p.ren (fun i=>idx i ps 0) | none=>none) ps with
         | none=>rw [hr1,ho1] at hfin;simp at hfin
         | some os=>
           rw [hr1,ho1] at hfin;simp only [Option.some.injEq,Prod.mk.injEq] at hfin;obtain ⟨rfl,rfl,rfl⟩:=hfin
           have pre:∃κ1,aC κ1 φ' w' { s' with O:=aV s'.O u } a'∧dW κ' φ' s'.O w'.heap κ1 φ' (aV s'.O u) w'.heap∧Fr κ' w' κ1 w'∧vs1.length=LP.length∧
            ∀(i:Nat) (x:RV) (v:Value),vs1[i]? = some x→us[i]? = some v→bE κ1 φ' (aV s'.O u) w'.heap x v:=by
            cases jP with
            | true=>
              simp only [cond_true] at hp;obtain ⟨κ1,q1,q2,q3,_,q5,q6⟩:=rW F' (kG.refl _) hp hcs (vs:=us) u2 u3;exact ⟨κ1,q1,q2,q3,q5,q6⟩
            | false=>
              simp only [cond_false,Option.some.injEq,Prod.mk.injEq] at hp;obtain ⟨rfl,rfl,rfl⟩:=hp;exact ⟨κ',F',dW.refl _ _ _ _,Fr.refl _ _,rfl,u3⟩
           obtain ⟨κ1,F1,M1,R1,l1,hv1⟩:=pre;have hone:=LM (us:=us) (vs:=vs1) (by omega) hv1;obtain ⟨o1,o2⟩:=dZ _ ps os ho1
           let κ2:bB:=fun b=>match κ1 b with
            | .dS=>.dS
            | .own i=>match idx i ps 0 with | some j=>.own j | none=>.kW
            | .kW=>.kW
           let φ2:bJ:=fun j=>match ps[j]? with | some i=>φ' i | none=>.un
           have oI:∀(i j:Nat),idx i ps 0=some j→ps[j]? = some i:=fun i j h=>by have:=(kJ i ps 0 j h).2;simpa using this
           have oP:∀(i j:Nat),ps[j]? = some i→idx i ps 0=some j:=fun i j h=>by
            obtain ⟨k,hk⟩:=kr i ps 0 (List.mem_iff_getElem?.2 ⟨j,h⟩);rw [hk,jy ps hnd k j i (oI i k hk) h]
           have iY:∀b,κ1 b = .dS→κ2 b = .dS:=fun b hb=>by simp only [κ2,hb]
           have hφ2:∀(i j:Nat),idx i ps 0=some j→φ' i≠.un→φ2 j=φ' i:=fun i j h _=>by simp only [φ2,oI i j h]
           have wB:∀(j i:Nat),ps[j]? = some i→∃p q,aV s'.O u i=some p∧p.ren (fun i=>idx i ps 0)=some q∧os[j]? = some q:=by
            intro j i h;have hlt:=(List.getElem?_eq_some_iff.1 h).1;have hlt2:j < os.length:=by omega
            have hq:os[j]? = some os[j]:=by simp [hlt2]
            have:=o2 j i _ h hq
            cases e:aV s'.O u i with
            | none=>simp only [e] at this;cases this
            | some p=>simp only [e] at this;exact ⟨p,_,rfl,this,hq⟩
           have nA:∀(i j n:Nat),idx i ps 0=some j→φ' i≠.un→ay.dn (aR os j)=some n→ay.dn (aV s'.O u i)=some n:=by
            intro i j n h _ hn;obtain ⟨p,q,e1,e2,e3⟩:=wB j i (oI i j h);rw [e1,←CJ e2];simp only [aR,e3] at hn;exact hn
           have first:∀i,i < objs.length→ps[i]? = some i:=fun i hi=>by
            rw [←hps,List.getElem?_append_left (by simpa using hi)];simp [hi]
           refine ⟨_,hrun,_,r',os,κ2,φ2,rfl,hQ,bE.ren (ρ:=fun i=>idx i ps 0) iY hφ2 nA 6 _ _ _ hr1 hone,fun j=>?_,F1.bnd.same (fun b e=>by simp only [κ2,e]) (fun b e=>by simp only [κ2,e]),?_,
            R'.trans (R1.trans ⟨Nat.le_refl _,fun b hb=>⟨iY b hb,rfl⟩,fun b _ hb=>⟨by simp only [κ2,hb],rfl⟩,fun _ c _ fz hc=>⟨c,fz,hc,rfl⟩,rfl,rfl⟩),⟨fun i hi=>?_,fun i n hi hn=>?_⟩⟩
           ·cases hj:ps[j]? with
            | none=>
              have:os[j]? = none:=by rw [List.getElem?_eq_none_iff] at hj ⊢;omega
              simp only [aR,this]
              show φ2 j = .un
              simp only [φ2,hj]
            | some i=>
              obtain ⟨p,q,e1,e2,e3⟩:=wB j i hj;simp only [aR,e3];have ho:=F1.objs i;simp only [e1] at ho;exact OR.ren (ρ:=fun i=>idx i ps 0) iY hφ2 nA (oP i j hj) (fun b hb=>by simp only [κ2,hb,oP i j hj]) e2 ho
           ·rw [o1,←hps];simp
           ·
            have hlt:i < objs.length:=by
             rcases Nat.lt_or_ge i objs.length with h | h
             ·exact h
             ·exfalso;apply hi
              have:=h1 i
              have e:aR objs i=none:=by simp only [aR];exact List.getElem?_eq_none h
              rw [e] at this;exact this
            simp only [φ2,first i hlt];exact K'.phi i hlt hi
           ·have hlt:i < objs.length:=by
             rcases Nat.lt_or_ge i objs.length with h | h
             ·exact h
             ·exfalso;apply hi
              have:=h1 i
              have e:aR objs i=none:=by simp only [aR];exact List.getElem?_eq_none h
              rw [e] at this;exact this
            have h2' : φ' i≠.un:=by rw [K'.phi i hlt hi];exact hi
            have:=nA i i n (oP i i (first i hlt)) h2' hn
            exact K'.len i n hlt hi (M1.len i n h2' this)
def T.WE {α:Type}:Nat→List α→T α
 | _,[]=>.nil
 | k,x::r=>(T.WE (k+1) r).set k (some x)
theorem T.CO {α:Type}:∀(l:List α) (k i:Nat),k+l.length≤65000→(T.WE k l).get i=if i < k then none else l[i-k]?
 | [],k,i,_=>by simp [T.WE,T.get]
 | x::r,k,i,h=>by
   simp only [List.length_cons] at h;simp only [T.WE];by_cases e:i=k
   ·subst e;rw [T.get_set_same _ (by omega),if_neg (by omega)];simp
   ·rw [T.bU _ e,T.CO r (k+1) i (by omega)];by_cases h1:i < k
    ·rw [if_pos (by omega),if_pos h1]
    ·rw [if_neg (by omega),if_neg h1,show i-k=(i-(k+1))+1 by omega];rfl
def dz (n:Nat) (args:List RV) (objs:List ay):iU:={ n:=n,m:=objs.length,regs:=T.WE 0 args,objs:=T.WE 0 objs }
theorem bn {f:FuncId} {fn:Func} {body:Code} {args:List RV} {objs:List ay} (jP:Bool) {Q:RV→List ay→Prop} (hf:P.funcs[f]? = some fn) (hb:fn.body=some body)
 (hn:(Nat.ble args.length fn.ntmps&&Nat.ble args.length 60000&&Nat.ble objs.length 60)=true)
 (h:WK P objs.length [.code body] (dz fn.ntmps args objs).den
   (fun s=>s.df=[]∧∃r bL c,finish (Env.of P) jP objs.length fn.results.toList s.R s.O=some (r,bL,c)∧(∀b∈c,b=true)∧Q r bL)):C P f args objs Q:=by
 simp only [Bool.and_eq_true] at hn;have h1:=Nat.le_of_ble_eq_true hn.1.1;have h2:=Nat.le_of_ble_eq_true hn.1.2;have h3:=Nat.le_of_ble_eq_true hn.2;refine Po (jP:=jP) hf hb h1 ?_
 have e:(dz fn.ntmps args objs).den = { n:=fn.ntmps,R:=fun t=>(args[t]?).getD .bot,O:=aR objs }:=by
  simp only [dz,iU.den];congr 1
  ·funext t;unfold aY;rw [T.CO _ _ _ (by omega)];simp only [Nat.not_lt_zero,if_false,Nat.sub_zero];cases args[t]?<;>rfl
  ·funext i;rw [T.CO _ _ _ (by omega)];simp [aR]
 rw [←e];exact h
def stacks:Code→List It→List (List It)
 | .seq x y,k=>stacks x (.code y::k)++stacks y k
 | .cond _ x y,k=>stacks x k++stacks y k
 | .block id b,k=>stacks b (.blk id::k)
 | .loop b,k=>(.code b :: .lp b::k)::stacks b (.lp b::k)
 | .scope b,k=>stacks b (.scp b::k)
 | _,_=>[]
def av (body:Code) (i:Nat):List It:=(stacks body []).getD i []
def R9:List Bool→Prop
 | []=>True
 | c::r=>c=true∧R9 r
def Sb:List (RV×RV)→Prop
 | []=>True
 | (x,y)::r=>iI x y∧Sb r
theorem R9.all:∀{l:List Bool},R9 l→∀c∈l,c=true
 | [],_,c,h=>by simp at h
 | x::r,⟨h1,h2⟩,c,h=>by
   rcases List.mem_cons.1 h with rfl | h
   ·exact h1
   ·exact R9.all h2 c h
theorem Sb.all:∀{l:List (RV×RV)},Sb l→∀e∈l,iI e.1 e.2
 | [],_,e,h=>by simp at h
 | (x,y)::r,⟨h1,h2⟩,e,h=>by
   rcases List.mem_cons.1 h with rfl | h
   ·exact h1
   ·exact Sb.all h2 e h
theorem ah {a b:Bool} (h:a=b):iI (.d (.bool a)) (.d (.bool b)):=.of_eq (by rw [h])
def CP (cf:eu) (n l:Nat) (ov:Ov) (p:Post) (k:List It) (st:iU):Option (List It×iU×List Bool×List (RV×RV)):=
 match drive cf ov n l k { st:=st,cs:=[],es:=[] } with
 | some (k',ac)=>match k' with
   | []=>none
   | _::_=>match yK p ac.st with
     | some st'=>some (k',st',ac.cs,ac.es)
     | none=>none
 | none=>none
def au (cf:eu) (jP:Bool) (rs:List ResultVar) (n l:Nat) (ov:Ov) (k:List It) (st:iU):Option (RV×List ay×List Bool×List (RV×RV)):=
 match drive cf ov n l k { st:=st,cs:=[],es:=[] } with
 | some (k',ac)=>match k' with
   | []=>match finish cf.E jP ac.st.m rs (aY ac.st.regs) ac.st.objs.get with
     | some (r,o,c)=>some (r,o,ac.cs++c,ac.es)
     | none=>none
   | _::_=>none
 | none=>none
theorem iA {cf:eu} {ov:Ov}:∀(n l:Nat) (k k' : List It) (ac jB : Acc),drive cf ov n l k ac=some (k',jB)→jB.st.m=ac.st.m
 | 0,_,_,_,_,_,h=>by simp [drive] at h
 | n+1,l,k,k',ac,jB,h=>by
   have base:∀{k k' : List It} {a a' : Acc},some (k,a)=some (k',a')→a'.st.m=a.st.m:=by
    intro k k' a a' h;injection h with h;injection h with h1 h2;subst h2;rfl
   unfold drive at h;split at h
   ·exact base h
   ·exact iA n l _ _ _ _ h
   ·exact iA n l _ _ _ _ h
   ·split at h
    ·exact base h
    ·exact iA n _ _ _ _ _ h
   ·split at h
    ·exact iA n l _ _ _ _ h
    ·exact iA n l _ _ _ _ h
    ·split at h
     ·rename_i a1 hs
      have:=(rE hs).2.2.1
      rw [iA n l _ _ _ _ h,this]
     ·simp at h
    ·split at h
     ·split at h<;>exact iA n l _ _ _ _ h
     ·simp at h
    ·exact iA n l _ _ _ _ h
    ·split at h
     ·exact base h
     ·exact iA n _ _ _ _ _ h
    ·split at h
     ·exact iA n l _ _ _ _ h
     ·simp at h
    ·exact base h
    ·exact iA n l _ _ _ _ h
    ·exact iA n l _ _ _ _ h
    ·simp at h
structure Ok (P:Program) (cf:eu):Prop where
 cf:jI P cf
 mix:P.follows .mixedOrders=true
theorem WK.seg {cf:eu} (hok:Ok P cf) {m:Nat} {st st' : iU} {k k' : List It} {Q:bQ→Prop} (n l:Nat) (ov:Ov) (p:Post) (cs:List Bool) (es:List (RV×RV)) (hm:st.m=m)
 (h:CP cf n l ov p k st=some (k',st',cs,es)) (hc:R9 cs) (he:Sb es) (hk:WK P m k' st'.den Q):WK P m k st.den Q:=by
 subst hm;unfold CP at h;split at h
 ·rename_i k1 ac hd;split at h
  ·simp at h
  ·rename_i x k1;cases hp:yK p ac.st with
   | none=>rw [hp] at h;simp at h
   | some s1=>
     rw [hp] at h;simp only [Option.some.injEq,Prod.mk.injEq] at h;obtain ⟨rfl,rfl,rfl,rfl⟩:=h;have hm1:=iA _ _ _ _ _ _ hd;refine fJ hok.cf hok.mix n l k _ { st:=st,cs:=[],es:=[] } ac hd hc.all he.all (fun e=>by simp at e) (fun _=>?_);rw [←hm1];refine JM hp ?_;rw [hm1];exact hk
 ·simp at h
theorem WK.fin {cf:eu} (hok:Ok P cf) {m:Nat} {st:iU} {k:List It} {rs:List ResultVar} {jP:Bool} {Q:RV→List ay→Prop} (n l:Nat) (ov:Ov) {r:RV} {o:List ay} (cs:List Bool) (es:List (RV×RV)) (hm:st.m=m)
 (h:au cf jP rs n l ov k st=some (r,o,cs,es)) (hc:R9 cs) (he:Sb es) (hQ:Q r o) :
 WK P m k st.den (fun s=>s.df=[]∧∃r bL c,finish (Env.of P) jP m rs s.R s.O=some (r,bL,c)∧(∀b∈c,b=true)∧Q r bL):=by
 subst hm;unfold au at h;split at h
 ·rename_i k1 ac hd;split at h
  ·rw [hok.cf.E] at h;cases hf:finish (Env.of P) jP ac.st.m rs (aY ac.st.regs) ac.st.objs.get with
   | none=>rw [hf] at h;simp at h
   | some p=>
     obtain ⟨r',o',c'⟩:=p;rw [hf] at h;simp only [Option.some.injEq,Prod.mk.injEq] at h;obtain ⟨rfl,rfl,rfl,rfl⟩:=h;have hm1:=iA _ _ _ _ _ _ hd;refine fJ hok.cf hok.mix n l k _ { st:=st,cs:=[],es:=[] } ac hd (fun c hcc=>hc.all c (by simp [hcc])) he.all (fun _=>?_) (fun e=>by simp at e);rw [←hm1];exact ⟨rfl,r',o',c',hf,fun b hb=>hc.all b (by simp [hb]),hQ⟩
  ·simp at h
 ·simp at h
theorem WK.rec' {m:Nat} {k:List It} {Q:bQ→Prop} {σ:Type} (S:σ→iU) (inv:σ→Prop) (μ:σ→Nat)
 (round:∀y,inv y→(∀z,inv z→μ z < μ y→WK P m k (S z).den Q)→WK P m k (S y).den Q):∀y,inv y→WK P m k (S y).den Q:=by
 have key:∀n y,μ y=n→inv y→WK P m k (S y).den Q:=by
  intro n;induction n using Nat.strongRecOn with
  | _ n ih=>exact fun y hn hy=>round y hy fun z hz hlt=>ih (μ z) (hn▸hlt) z rfl hz
 exact fun y hy=>key _ y rfl hy
def sF:Nat→RV→List Nat
 | 0,_=>[]
 | d+1,v=>match v with
   | .ptr i _=>[i]
   | .gQ i _ _ _=>[i]
   | .own i _=>[i]
   | .sub i _ _ _=>[i]
   | .sl i _ _ _ _=>[i]
   | .map i=>[i]
   | .gG _ f c=>f.flatMap (sF d)++c.flatMap (sF d)
   | .agg cs=>cs.flatMap (sF d)
   | .aZ vs=>vs.flatMap (sF d)
   | _=>[]
def Sc:Option ay→List Nat
 | some (.box _ cs)=>cs.flatMap (sF 6)
 | some (.bO _ cs)=>cs.flatMap (sF 6)
 | some (.OC m)=>[m]
 | _=>[]
def Gq (O:T ay):Nat→List Nat→List Nat→List Nat
 | 0,_,seen=>seen
 | _+1,[],seen=>seen
 | f+1,i::r,seen=>bif seen.any (Nat.beq i) then Gq O f r seen else Gq O f (r++Sc (O.get i)) (seen++[i])
def IE (oL:List (Nat×Nat×Nat×Nat)) (live:List Nat) (st:iU):Post:=
 let olds:=(Gq st.objs 300 (live.flatMap fun t=>sF 6 (aY st.regs t)) []).filter (fun i=>Nat.ble st.m i)
 { oL:=oL,live:=live,olds:=olds,mF:=(List.range olds.length).map (200 + ·) }
def aJ (cf:eu) (n l:Nat) (ov:Ov) (oL:List (Nat×Nat×Nat×Nat)) (live:List Nat) (k:List It) (st:iU):Option (List It×iU×List Bool×List (RV×RV)):=
 match drive cf ov n l k { st:=st,cs:=[],es:=[] } with
 | some (k',ac)=>match k' with
   | []=>none
   | _::_=>match pI oL ac.st with
     | some s1=>match CK (IE oL live s1) s1 with
       | some st'=>some (k',st',ac.cs,ac.es)
       | none=>none
     | none=>none
 | none=>none
theorem EH {cf:eu} {n l:Nat} {ov:Ov} {oL:List (Nat×Nat×Nat×Nat)} {live:List Nat} {k:List It} {st:iU} {x:List It×iU×List Bool×List (RV×RV)}
 (h:aJ cf n l ov oL live k st=some x):∃p,CP cf n l ov p k st=some x:=by
 unfold aJ at h;split at h
 ·rename_i k1 ac hd;split at h
  ·simp at h
  ·rename_i y k1;cases hn:pI oL ac.st with
   | none=>rw [hn] at h;simp at h
   | some s1=>
     rw [hn] at h;simp only at h;cases hk:CK (IE oL live s1) s1 with
     | none=>rw [hk] at h;simp at h
     | some st'=>
       rw [hk] at h;refine ⟨IE oL live s1,?_⟩;unfold CP;rw [hd];simp only [yK]
       have:(IE oL live s1).oL=oL:=rfl
       rw [this,hn];simp only [hk];exact h
 ·simp at h
theorem WK.cZ {cf:eu} (hok:Ok P cf) {m:Nat} {st st' : iU} {k k' : List It} {Q:bQ→Prop} (n l:Nat) (ov:Ov) (oL:List (Nat×Nat×Nat×Nat)) (live:List Nat) (cs:List Bool) (es:List (RV×RV)) (hm:st.m=m)
 (h:aJ cf n l ov oL live k st=some (k',st',cs,es)) (hc:R9 cs) (he:Sb es) (hk:WK P m k' st'.den Q):WK P m k st.den Q:=
 let ⟨p,hp⟩:=EH h
 WK.seg hok n l ov p cs es hm hp hc he hk
end Go.Am
