/-
  Texts that the claim leans on: AmEff1, AmEff2, AmEff3, AmEff4, AmDrive, AmEntry, AmUse.
-/
import Derived.Test.YtjoefbioobdinaaGreatDoorwe
namespace Go.Am
set_option linter.unusedSectionVars false
variable {P:Program} [Gl]
def Le (O O' : Tab):Prop:=∀i p,O i=some p→O' i=some p
theorem Le.aX {O O' : Tab} (h:Le O O') (u:List (Nat×av)):Le (Am.aX O u) (Am.aX O' u):=by
 induction u generalizing O O' with
 | nil=>exact h
 | cons x r ih=>
   refine ih (fun i p hi=>?_);have hi' : bF O x.1 (some x.2) i=some p:=hi
   show bF O' x.1 (some x.2) i=some p
   by_cases e:i=x.1
   ·subst e;rw [bN] at hi' ⊢;exact hi'
   ·rw [dP _ _ e] at hi' ⊢;exact h i p hi'
theorem pq {O O' : Tab} (h:Le O O') {v:RV} {r:DV×List (Nat×av)×List Bool} (hx:iq O v=some r):iq O' v=some r:=by
 cases v with
 | own i sz=>
   cases ho:O i with
   | none=>simp [iq,ho] at hx
   | some p=>simp only [iq,ho] at hx;simp only [iq,h i p ho];exact hx
 | sub i sz off len=>
   cases ho:O i with
   | none=>simp [iq,ho] at hx
   | some p=>simp only [iq,ho] at hx;simp only [iq,h i p ho];exact hx
 | _=>exact hx
theorem tu {O O' : Tab} (h:Le O O'):∀{l:List RV} {r:List DV×List (Nat×av)×List Bool},jd O l=some r→jd O' l=some r
 | [],r,hx=>hx
 | v::l,r,hx=>by
   simp only [jd] at hx ⊢;cases h1:iq O v with
   | none=>rw [h1] at hx;simp at hx
   | some p=>
     cases h2:jd O l with
     | none=>rw [h1,h2] at hx;simp at hx
     | some q=>
       rw [h1,h2] at hx;rw [pq h h1,tu h h2];exact hx
theorem uV {O O' : Tab} (h:Le O O') {v:RV} {r:DV×List (Nat×av)×List Bool} (hx:sI O v=some r):sI O' v=some r:=by
 cases v with
 | agg cs=>
   simp only [sI] at hx ⊢;cases h2:jd O cs with
   | none=>rw [h2] at hx;simp at hx
   | some q=>rw [h2] at hx;rw [tu h h2];exact hx
 | _=>simp only [sI] at hx ⊢;exact pq h hx
theorem x9 {O O' : Tab} (h:Le O O'):∀{l:List (Nat×RV)} {r:List (Nat×DV)×List (Nat×av)×List Bool},oD O l=some r→oD O' l=some r
 | [],r,hx=>hx
 | (i,v)::l,r,hx=>by
   simp only [oD] at hx ⊢;cases h1:sI O v with
   | none=>rw [h1] at hx;simp at hx
   | some p=>
     cases h2:oD O l with
     | none=>rw [h1,h2] at hx;simp at hx
     | some q=>
       rw [h1,h2] at hx;rw [uV h h1,x9 h h2];exact hx
theorem qY {O O' : Tab} (h:Le O O') {v:RV} {r:RV×List (Nat×av)×List Bool} (hx:iW O v=some r):iW O' v=some r:=by
 unfold iW at hx ⊢;cases ho:KN v with
 | false=>rw [ho] at hx;exact hx
 | true=>
   rw [ho] at hx;simp only [cond_true] at hx ⊢;cases h1:iq O v with
   | none=>rw [h1] at hx;simp at hx
   | some p=>rw [h1] at hx;rw [pq h h1];exact hx
theorem pz {O O' : Tab} (h:Le O O'):∀{l:List RV} {r:List RV×List (Nat×av)×List Bool},fV O l=some r→fV O' l=some r
 | [],r,hx=>hx
 | v::l,r,hx=>by
   simp only [fV] at hx ⊢;cases h1:iW O v with
   | none=>rw [h1] at hx;simp at hx
   | some p=>
     cases h2:fV O l with
     | none=>rw [h1,h2] at hx;simp at hx
     | some q=>
       rw [h1,h2] at hx;rw [qY h h1,pz h h2];exact hx
theorem D8 {O O' : Tab} (h:Le O O') {v:RV} {r:RV×List (Nat×av)×List Bool} (hx:mJ O v=some r):mJ O' v=some r:=by
 cases v with
 | agg cs=>
   simp only [mJ] at hx ⊢;cases h2:fV O cs with
   | none=>rw [h2] at hx;simp at hx
   | some q=>rw [h2] at hx;rw [pz h h2];exact hx
 | _=>simp only [mJ] at hx ⊢;exact qY h hx
theorem nX {O O' : Tab} (h:Le O O'):∀{l:List RV} {r:List RV×List (Nat×av)×List Bool},eZ O l=some r→eZ O' l=some r
 | [],r,hx=>hx
 | v::l,r,hx=>by
   simp only [eZ] at hx ⊢;cases h1:mJ O v with
   | none=>rw [h1] at hx;simp at hx
   | some p=>
     cases h2:eZ O l with
     | none=>rw [h1,h2] at hx;simp at hx
     | some q=>
       rw [h1,h2] at hx;rw [D8 h h1,nX h h2];exact hx
theorem rU {O O' : Tab} (h:Le O O') {v:RV} {r:Nat×List DV×List Bool} (hx:lu O v=some r):lu O' v=some r:=by
 cases v with
 | own i sz=>
   cases ho:O i with
   | none=>simp [lu,ho] at hx
   | some p=>simp only [lu,ho] at hx;simp only [lu,h i p ho];exact hx
 | sub i sz off len=>
   cases ho:O i with
   | none=>simp [lu,ho] at hx
   | some p=>simp only [lu,ho] at hx;simp only [lu,h i p ho];exact hx
 | d x=>cases x<;>exact hx
 | _=>exact hx
theorem D9 {O O' : Tab} (h:Le O O') {v:RV} {r:Nat×List DV×List Bool} (hx:mG O v=some r):mG O' v=some r:=by
 cases v with
 | d x=>cases x with
   | str s=>exact hx
   | _=>simp only [mG] at hx ⊢;exact rU h hx
 | _=>simp only [mG] at hx ⊢;exact rU h hx
theorem Ea {E:Env} {O O' : Tab} (h:Le O O') {t:Nat} {v:RV} {r:dz} (hx:mF E O t v=some r):mF E O' t v=some r:=by
 unfold mF at hx ⊢;cases hz:E.size t with
 | none=>rw [hz] at hx;simp at hx
 | some z=>
   rw [hz] at hx;simp only at hx ⊢;cases v with
   | ptr i off=>
     simp only at hx ⊢;cases ho:O i with
     | none=>rw [ho] at hx;simp at hx
     | some p=>rw [ho] at hx;rw [h i p ho];exact hx
   | gU i sz idx off=>
     simp only at hx ⊢;cases ho:O i with
     | none=>rw [ho] at hx;simp at hx
     | some p=>rw [ho] at hx;rw [h i p ho];exact hx
   | _=>exact hx
theorem BL {E:Env} {O O' : Tab} (h:Le O O') {t:Nat} {a v:RV} {r:dz} (hx:lV E O t a v=some r):lV E O' t a v=some r:=by
 unfold lV at hx ⊢;cases hz:E.size t with
 | none=>rw [hz] at hx;simp at hx
 | some z=>
   rw [hz] at hx;simp only at hx ⊢;cases a with
   | ptr i off=>
     simp only at hx ⊢;cases ho:O i with
     | none=>rw [ho] at hx;simp at hx
     | some p=>rw [ho] at hx;rw [h i p ho];exact hx
   | gU i sz idx off=>
     simp only at hx ⊢;cases ho:O i with
     | none=>rw [ho] at hx;simp at hx
     | some p=>
       rw [ho] at hx;rw [h i p ho];cases p with
       | arr ty sz' els=>
         simp only at hx ⊢;cases hb:Nat.beq sz' sz with
         | false=>rw [hb] at hx;simp at hx
         | true=>
           rw [hb] at hx;simp only [cond_true] at hx ⊢;cases h1:sI O v with
           | none=>rw [h1] at hx;simp at hx
           | some q=>rw [h1] at hx;rw [uV h h1];exact hx
       | _=>exact hx
   | _=>exact hx
theorem FM {E:Env} {O O' : Tab} (h:Le O O') {t:Nat} {v:RV} {r:dz} (hx:zL E O t v=some r):zL E O' t v=some r:=by
 unfold zL at hx ⊢;split at hx
 ·exact hx
 ·exact hx
 ·rename_i i _ hu;cases ho:O i with
  | none=>rw [ho] at hx;simp at hx
  | some p=>rw [ho] at hx;rw [h i p ho];exact hx
 ·exact hx
 ·exact hx
 ·exact hx
 ·rename_i i hu;cases ho:O i with
  | none=>rw [ho] at hx;simp at hx
  | some p=>rw [ho] at hx;rw [h i p ho];exact hx
 ·cases hx
theorem uW {E:Env} {O O' : Tab} (h:Le O O') {t:Nat} {v j:RV} {r:dz} (hx:jr E O t v j=some r):jr E O' t v j=some r:=by
 unfold jr at hx ⊢;split at hx
 ·split at hx
  ·exact hx
  ·rename_i k sz hu;cases ho:O k with
   | none=>rw [ho] at hx;simp at hx
   | some p=>rw [ho] at hx;rw [h k p ho];exact hx
  ·exact hx
  ·rename_i k off hu;cases ho:O k with
   | none=>rw [ho] at hx;simp at hx
   | some p=>rw [ho] at hx;rw [h k p ho];exact hx
  ·cases hx
 ·cases hx
theorem BM {E:Env} {O O' : Tab} (h:Le O O') {t:Nat} {v:RV} {lo hi mx:Option RV} {r:dz} (hx:pY E O t v lo hi mx=some r):pY E O' t v lo hi mx=some r:=by
 unfold pY at hx ⊢;split at hx
 ·split at hx
  ·exact hx
  ·exact hx
  ·rename_i i sz hu;cases ho:O i with
   | none=>rw [ho] at hx;simp at hx
   | some p=>rw [ho] at hx;simp only [h i p ho];exact hx
  ·exact hx
  ·rename_i i off hu;cases ho:O i with
   | none=>rw [ho] at hx;simp at hx
   | some p=>rw [ho] at hx;simp only [h i p ho];exact hx
  ·cases hx
 ·exact hx
 ·cases hx
theorem Eb {E:Env} {O O' : Tab} (h:Le O O') {sl:Nat} (hs:O' sl=O sl) {s d:Nat} {v:RV} {r:dz} (hx:uH E O sl s d v=some r):uH E O' sl s d v=some r:=by
 unfold uH at hx ⊢;rw [hs];split at hx
 ·exact hx
 ·exact hx
 ·exact hx
 ·rename_i v _ _ _ e hu1 hu2 hne;cases hb:qJ (E.und e) with
  | false=>rw [hb] at hx;simp at hx
  | true=>
    rw [hb] at hx;simp only [cond_true] at hx ⊢;cases h1:lu O v with
    | none=>rw [h1] at hx;simp at hx
    | some q=>rw [h1] at hx;rw [rU h h1];exact hx
 ·cases hx
theorem tC {E:Env} {O O' : Tab} (h:Le O O') {sl:Nat} (hs:O' sl=O sl) {t n:Nat} {parts:List (Nat×RV)} {r:dz} (hx:iN E O sl t n parts=some r):iN E O' sl t n parts=some r:=by
 unfold iN at hx ⊢;rw [hs];split at hx
 ·rename_i e h1 h2;split at hx
  ·rename_i sz z h3 h4;cases h5:oD O parts with
   | none=>rw [h5] at hx;simp at hx
   | some q=>rw [h5] at hx;rw [x9 h h5];exact hx
  ·cases hx
 ·cases hx
theorem zm {E:Env} {O O' : Tab} (h:Le O O') {sl:Nat} (hs:O' sl=O sl) (hs1:O' (sl+1)=O (sl+1)) {t:Nat} {s x:RV} {r:dz} (hx:mY E O sl t s x=some r):mY E O' sl t s x=some r:=by
 have hsl:∀i,O' (bif Nat.beq i sl then sl+1 else sl)=O (bif Nat.beq i sl then sl+1 else sl):=fun i=>by cases Nat.beq i sl<;>simp [hs,hs1]
 unfold mY at hx ⊢;split at hx
 ·rename_i e hu;split at hx
  ·rename_i z iO sx xs cx h1 h2 h3;rw [h1,h2,D9 h h3];simp only;cases hb:((Nat.beq sx z||xs.isEmpty)&&Nat.ble 1 z&&Nat.ble 1 iO&&mH E e z) with
   | false=>rw [hb] at hx;simp at hx
   | true=>
     rw [hb] at hx;simp only [cond_true] at hx ⊢;split at hx
     ·simp only [hs];exact hx
     ·rename_i i sz
      (try simp only)
      cases hb2:Nat.beq sz z with
      | false=>rw [hb2] at hx;simp at hx
      | true=>
        rw [hb2] at hx;simp only [cond_true] at hx ⊢;cases ho:O i with
        | none=>rw [ho] at hx;simp at hx
        | some p=>rw [ho] at hx;rw [h i p ho];simp only [hsl];exact hx
     ·rename_i i sz off len
      (try simp only)
      cases hb2:(Nat.beq sz z&&Nat.beq off 0) with
      | false=>rw [hb2] at hx;simp at hx
      | true=>
        rw [hb2] at hx;simp only [cond_true] at hx ⊢;cases ho:O i with
        | none=>rw [ho] at hx;simp at hx
        | some p=>rw [ho] at hx;rw [h i p ho];simp only [hsl];exact hx
     ·cases hx
  ·cases hx
 ·cases hx
theorem wJ {O O' : Tab} (h:Le O O') {fn:Fn} {fs cs:List RV} {r:dz} (hx:jQ O fn fs cs=some r):jQ O' fn fs cs=some r:=by
 unfold jQ at hx ⊢;cases h1:eZ O (fs++cs) with
 | none=>rw [h1] at hx;simp at hx
 | some q=>rw [h1] at hx;rw [nX h h1];exact hx
theorem uX (O:Tab):∀(n:Nat) (todo done:List Nat) (i:Nat),i∈done→i∈reach O n todo done
 | 0,_,done,i,h=>by simp [reach,h]
 | n+1,[],done,i,h=>by simp [reach,h]
 | n+1,x::todo,done,i,h=>by
   simp only [reach];cases (done.any fun j=>Nat.beq j x) with
   | true=>simp only [cond_true];exact uX O n todo done i h
   | false=>simp only [cond_false];exact uX O n _ _ i (by simp [h])
theorem rV {O O' : Tab} (h:Le O O'):∀(n:Nat) (todo done:List Nat),(∀i∈reach O n todo done,O i≠none)→reach O' n todo done=reach O n todo done
 | 0,_,_,_=>by simp [reach]
 | n+1,[],done,_=>by simp [reach]
 | n+1,x::todo,done,hr=>by
   simp only [reach] at hr ⊢;cases hb:(done.any fun j=>Nat.beq j x) with
   | true=>
     rw [hb] at hr;simp only [cond_true] at hr ⊢;exact rV h n todo done hr
   | false=>
     rw [hb] at hr;simp only [cond_false] at hr ⊢;have hx:=hr x (uX O n _ _ x (by simp))
     have e:O' x=O x:=by
      cases ho:O x with
      | none=>exact absurd ho hx
      | some p=>exact h x p ho
     rw [e];exact rV h n _ _ hr
theorem yc {α β:Type} {f g:α→Option β}:∀(l:List α),(∀x∈l,f x=g x)→eG f l=eG g l
 | [],_=>rfl
 | x::l,h=>by simp only [eG];rw [h x (by simp),yc l (fun y hy=>h y (by simp [hy]))]
theorem Ac {α β:Type} {f:α→Option β}:∀{l:List α} {r:List β},eG f l=some r→∀x∈l,∃y,f x=some y
 | [],_,_,x,hx=>by simp at hx
 | a::l,r,h,x,hx=>by
   simp only [eG] at h;cases h1:f a with
   | none=>rw [h1] at h;simp at h
   | some y=>
     cases h2:eG f l with
     | none=>rw [h1,h2] at h;simp at h
     | some q=>
       rcases List.mem_cons.1 hx with rfl | hx
       ·exact ⟨y,h1⟩
       ·exact Ac h2 x hx
theorem FN {O O' : Tab}:∀(u:List (Nat×av)) (i:Nat),O' i=O i→aX O' u i=aX O u i:=by
 intro u;induction u generalizing O O' with
 | nil=>intro i h;exact h
 | cons x r ih=>
   intro i h;refine ih i ?_
   show bF O' x.1 (some x.2) i=bF O x.1 (some x.2) i
   by_cases e:i=x.1
   ·subst e;rw [bN,bN]
   ·rw [dP _ _ e,dP _ _ e];exact h
theorem Ad:∀(qs:List Nat) (ps:List av),qs.length≤ps.length→∀i∈qs,∃p,(i,p)∈sO qs ps
 | [],_,_,i,h=>by simp at h
 | q::qs,[],hl,_,_=>by simp at hl
 | q::qs,p::ps,hl,i,h=>by
   rcases List.mem_cons.1 h with rfl | h
   ·exact ⟨p,by simp [sO]⟩
   ·obtain ⟨p',hp⟩:=Ad qs ps (by simpa using hl) i h;exact ⟨p',by simp [sO,hp]⟩
theorem tF {K:uD} {dD:Bool} {O O' : Tab} (h:Le O O') {sl f:Nat} {args:List RV} {r:dz} (hx:iA K dD O sl f args=some r) (hk:∀p∈r.upd,O' p.1=O p.1):iA K dD O' sl f args=some r:=by
 unfold iA at hx ⊢
 have hpre:∀q,(bif dD then some (args,[],[]) else eZ O args)=some q→(bif dD then some (args,[],[]) else eZ O' args)=some q:=by
  intro q hq;cases dD with
  | true=>exact hq
  | false=>exact nX h hq
 cases h1:(bif dD then some (args,[],[]) else eZ O args) with
 | none=>rw [h1] at hx;simp at hx
 | some q=>
   rw [hpre q h1];rw [h1] at hx;obtain ⟨args1,u,c⟩:=q;simp only at hx ⊢;generalize hps:reach (aX O u) 400 (args1.flatMap (RV.refs 6)) []=ps at hx;split at hx
   ·rename_i args2 objs h2 h3
    ·have hu:=h.aX u
     have hsome:∀i∈ps,aX O u i≠none:=fun i hi hn=>by
      obtain ⟨y,hy⟩:=Ac h3 i hi;rw [hn] at hy;simp at hy
     have Zc : reach (aX O' u) 400 (args1.flatMap (RV.refs 6)) []=ps:=by
      rw [←hps];exact rV hu _ _ _ (by rw [hps];exact hsome)
     have hag:∀i∈ps,aX O' u i=aX O u i:=fun i hi=>by
      cases ho:aX O u i with
      | none=>exact absurd ho (hsome i hi)
      | some p=>exact hu i p ho
     rw [Zc,h2,(yc ps (fun i hi=>by simp only [hag i hi])).trans h3];simp only;cases h4:K f args2 objs with
     | none=>rw [h4] at hx;simp at hx
     | some q4=>
       obtain ⟨r4,bS,c2⟩:=q4;rw [h4] at hx;simp only at hx ⊢;generalize hnw:news sl (bS.length-ps.length)=nw at hx;cases h5:(nodupB ps&&nodupB (ps++nw)&&Nat.ble ps.length bS.length&&nw.all (fun i=>(aX O u i).isNone)) with
       | false=>rw [h5] at hx;simp at hx
       | true=>
         rw [h5] at hx;simp only [cond_true] at hx;cases h6:eG (av.ren (fun j=>(ps++nw)[j]?)) bS with
         | none=>rw [h6] at hx;simp at hx
         | some fF=>
           cases h7:RV.ren (fun j=>(ps++nw)[j]?) 6 r4 with
           | none=>rw [h6,h7] at hx;simp at hx
           | some r''=>
             rw [h6,h7] at hx;simp only [Option.some.injEq] at hx;subst hx;simp only [Bool.and_eq_true] at h5
             have hlen:(ps++nw).length≤fF.length:=by
              have a1:=(dW _ bS fF h6).1;have a2:=Nat.le_of_ble_eq_true h5.1.2;have a3:nw.length=bS.length-ps.length:=by rw [←hnw];simp [news]
              simp only [List.length_append];omega
             have hnone:nw.all (fun i=>(aX O' u i).isNone)=true:=by
              rw [List.all_eq_true];intro i hi;obtain ⟨p,hp⟩:=Ad (ps++nw) fF hlen i (by simp [hi]);rw [FN u i (hk (i,p) (by simp [hp]))];exact List.all_eq_true.1 h5.2 i hi
             rw [h5.1.1.1,h5.1.1.2,h5.1.2,hnone];rfl
   ·cases hx
theorem BN {diff:Bool} {K:uD} {dD:Bool} {O O' : Tab} (h:Le O O') {sl f:Nat} {args:List RV} {r:dz} (hx:ql diff K dD O sl f args=some r) (hk:∀p∈r.upd,O' p.1=O p.1):ql diff K dD O' sl f args=some r:=by
 unfold ql at hx ⊢;cases diff with
 | false=>exact tF h hx hk
 | true=>
   simp only at hx ⊢;cases hf:iA K dD O sl f args with
   | none=>rw [hf] at hx;simp at hx
   | some r0=>
     rw [hf] at hx;simp only at hx;cases hn:nodupB (r0.upd.map (·.1)) with
     | false=>rw [hn] at hx;simp at hx
     | true=>
       rw [hn] at hx;simp only [cond_true,Option.some.injEq] at hx;subst hx
       have hall:∀p∈r0.upd,O' p.1=O p.1:=fun p hp=>by
        cases e:Aa (O p.1) p.2 with
        | false=>exact hk p (List.mem_filter.2 ⟨hp,by simp [e]⟩)
        | true=>
          unfold Aa at e;split at e
          ·rename_i q hq;rw [h _ _ hq,hq]
          ·cases e
       rw [tF h hf hall];simp only [hn,cond_true,Option.some.injEq]
       have:nE O' r0.upd=nE O r0.upd:=List.filter_congr fun p hp=>by rw [hall p hp]
       rw [this]
theorem BO {O O' : Tab} (h:Le O O') {x:RV} {b:Bool} (hx:pX O x=some b):pX O' x=some b:=by
 unfold pX at hx ⊢;split at hx
 ·exact hx
 ·rename_i i sz;cases hO:O i with
  | none=>rw [hO] at hx;simp at hx
  | some p=>rw [hO] at hx;rw [h _ _ hO];exact hx
 ·exact hx
 ·cases hx
theorem Ec {E:Env} {O O' : Tab} (h:Le O O') {op:BinOp} {t:Nat} {x y:RV} {r:dz} (hx:uG E O op t x y=some r):uG E O' op t x y=some r:=by
 unfold uG at hx ⊢;split at hx
 ·unfold xu at hx ⊢;split at hx
  ·rename_i e b hu hb;rw [hu,BO h hb];exact hx
  ·cases hx
 ·exact hx
theorem Ed {O O' : Tab} (h:Le O O') {x:RV} {es:List (DV×DV)} (hx:rowsOf O x=some es):rowsOf O' x=some es:=by
 unfold rowsOf at hx ⊢;split at hx
 ·exact hx
 ·rename_i i;cases hO:O i with
  | none=>rw [hO] at hx;simp at hx
  | some p=>rw [hO] at hx;rw [h i p hO];exact hx
 ·cases hx
theorem zn {E:Env} {O O' : Tab} (h:Le O O') {t:Nat} {x k:RV} {ok:Bool} {r:dz} (hx:nu E O t x k ok=some r):nu E O' t x k ok=some r:=by
 unfold nu at hx ⊢;split at hx
 ·rename_i kt et es kd hu hr;rw [hu,Ed h hr];exact hx
 ·cases hx
theorem uY {E:Env} {O O' : Tab} (h:Le O O') {t:Nat} {m k y:RV} {r:dz} (hx:gV E O t m k y=some r):gV E O' t m k y=some r:=by
 unfold gV at hx ⊢;split at hx
 ·rename_i kt et i kd hu;split at hx
  ·rename_i yd u c es h1 h2;rw [uV h h1,h _ _ h2];exact hx
  ·cases hx
 ·cases hx
theorem zo {E:Env} {O O' : Tab} (h:Le O O') {t:Nat} {m k:RV} {r:dz} (hx:ny E O t m k=some r):ny E O' t m k=some r:=by
 unfold ny at hx ⊢;split at hx
 ·rename_i kt et i kd hu;split at hx
  ·rename_i es h1;rw [h _ _ h1];exact hx
  ·cases hx
 ·cases hx
theorem tH {E:Env} {O O' : Tab} (h:Le O O') {e i sz off len:Nat} {r:dz} (hx:nT E O e i sz off len=some r):nT E O' e i sz off len=some r:=by
 unfold nT at hx ⊢;split at hx
 ·rename_i sz' els z zz h1 h2 h3;rw [h _ _ h1,h2,h3];exact hx
 ·cases hx
theorem BP {E:Env} {O O' : Tab} (h:Le O O') {t:Nat} {x:RV} {r:dz} (hx:qb E O t x=some r):qb E O' t x=some r:=by
 unfold qb at hx ⊢;split at hx
 ·rename_i e i sz hu;split at hx
  ·rename_i sz' els h1;rw [h _ _ h1];exact tH h hx
  ·cases hx
 ·rename_i e i sz off len hu;exact tH h hx
 ·cases hx
theorem FP {cf:dX} {R:Nat→RV} {O O' : Tab} (h:Le O O') {sl:Nat} (hs:O' sl=O sl) (hs1:O' (sl+1)=O (sl+1)) {o:Oper} {res:dz} {un:Bool} (hx:sV cf R O sl o=some (res,un))
 (hk:∀p∈res.upd,O' p.1=O p.1):sV cf R O' sl o=some (res,un):=by
 unfold sV at hx ⊢
 have val:∀{r r' : Option dz},(match r with | some r=>some (r,false) | none=>none)=some (res,un)→(r=some res→r'=some res)→(match r' with | some r=>some (r,false) | none=>none)=some (res,un):=by
  intro r r' h1 h2;cases r with
  | none=>simp at h1
  | some r=>simp at h1;obtain ⟨rfl,rfl⟩:=h1;rw [h2 rfl]
 have abp:∀{r:Option dz},(match r with | some r=>some (r,false) | none=>none)=some (res,un)→r=some res:=by
  intro r h1;cases r with
  | none=>simp at h1
  | some r=>simp at h1;rw [h1.1]
 cases ho:o.op<;>rw [ho] at hx<;>(try simp only at hx ⊢)<;>try exact hx
 case alloc t=>
  cases hz:cf.E.zero t with
  | none=>rw [hz] at hx;simp at hx
  | some z=>
    rw [hz] at hx;simp only at hx ⊢;refine val hx fun e=>?_;unfold pW at e ⊢;rw [hs];exact e
 case box t x=>refine val hx fun e=>?_;unfold pW at e ⊢;rw [hs];exact e
 case buildSlice t n parts=>exact val hx fun e=>tC h hs e
 case load t x=>exact val hx fun e=>Ea h e
 case store t x y=>
  cases h1:lV cf.E O t (aN R x) (aN R y) with
  | none=>rw [h1] at hx;simp at hx
  | some r=>rw [h1] at hx;rw [BL h h1];exact hx
 case binOp op t x y yt=>exact val hx fun e=>Ec h e
 case convert s d x=>exact val hx fun e=>Eb h hs e
 case slice t x lo hi mx=>exact val hx fun e=>BM h e
 case indexAddr t x i=>exact val hx fun e=>uW h e
 case makeFunc fn first caps=>exact val hx fun e=>wJ h e
 case makeSlice t l c=>refine val hx fun e=>?_;unfold lW at e ⊢;rw [hs];exact e
 case makeMap t hh=>refine val hx fun e=>?_;unfold nk at e ⊢;rw [hs];exact e
 case lookup t x i ok=>exact val hx fun e=>zn h e
 case mapUpdate t m k y=>
  cases h1:gV cf.E O t (aN R m) (aN R k) (aN R y) with
  | none=>rw [h1] at hx;simp at hx
  | some r=>rw [h1] at hx;rw [uY h h1];exact hx
 case call c=>
  cases hc:c.callee with
  | builtin b=>
    rw [hc] at hx;simp only at hx ⊢;refine val hx fun e=>?_;unfold uQ at e ⊢;split at e
    ·exact FM h e
    ·rename_i t t2 x y _ _;cases hn:kg (cf.E.und t2) with
     | false=>rw [hn] at e;simp at e
     | true=>rw [hn] at e;simp only [cond_true] at e ⊢;exact zm h hs hs1 e
    ·exact e
    ·exact e
    ·exact zo h e
    ·exact BP h e
    ·cases e
  | value f=>
    rw [hc] at hx;simp only at hx ⊢;split at hx
    ·rename_i g first caps hg;cases hok:cf.eH g with
     | false=>rw [hok] at hx;simp at hx
     | true=>
       rw [hok] at hx;simp only [cond_true] at hx ⊢;exact val hx fun e=>BN h e hk
    ·cases hx
  | _=>rw [hc] at hx;simp at hx
theorem fq {O O' : Tab} (h:Le O O') {i:Nat} {cs:List RV} (hx:bY O i=some cs):bY O' i=some cs:=by
 unfold bY at hx ⊢;split at hx
 ·rename_i t c he;rw [h _ _ he];exact hx
 ·rename_i t c he;rw [h _ _ he];exact hx
 ·cases hx
theorem mh {O O' : Tab} (h:Le O O') {i:Nat} {cs:List RV} (hx:bY O i=some cs):O' i=O i:=by
 unfold bY at hx;split at hx
 ·rename_i t c he;rw [h _ _ he,he]
 ·rename_i t c he;rw [h _ _ he,he]
 ·cases hx
theorem qp {O O' : Tab} (h:Le O O') {i:Nat} {cs:List RV} (hx:bY O i=some cs) (l:List RV):wH O' i l=wH O i l:=by
 unfold wH;rw [mh h hx]
theorem qZ {O O' : Tab} (h:Le O O') {z:Nat} {x:RV} {r:Nat×List RV} (hx:jD O z x=some r):jD O' z x=some r:=by
 unfold jD at hx ⊢;split at hx
 ·exact hx
 ·exact hx
 ·rename_i i sz o len cap;cases hc:bY O i with
  | none=>rw [hc] at hx;simp at hx
  | some cs=>rw [hc] at hx;simp only [fq h hc];exact hx
 ·cases hx
theorem BQ {E:Env} {O O' : Tab} (h:Le O O') {t:Nat} {a:RV} {r:dz} (hx:qd E O t a=some r):qd E O' t a=some r:=by
 unfold qd at hx ⊢;split at hx
 ·rename_i z i off hz;cases hc:bY O i with
  | none=>rw [hc] at hx;simp at hx
  | some cs=>rw [hc] at hx;simp only [fq h hc];exact hx
 ·cases hx
theorem zq {E:Env} {O O' : Tab} (h:Le O O') {t:Nat} {a v:RV} {r:dz} (hx:kF E O t a v=some r):kF E O' t a v=some r:=by
 unfold kF at hx ⊢;split at hx
 ·rename_i z i off hz;cases hc:bY O i with
  | none=>rw [hc] at hx;simp at hx
  | some cs=>rw [hc] at hx;simp only [fq h hc,qp h hc];exact hx
 ·cases hx
theorem zu {E:Env} {O O' : Tab} (h:Le O O') {t:Nat} {x:RV} {lo hi mx:Option RV} {r:dz} (hx:nC E O t x lo hi mx=some r):nC E O' t x lo hi mx=some r:=by
 unfold nC at hx ⊢;split at hx
 ·split at hx
  ·rename_i e i sz o len cap hu;cases hz:E.size e with
   | none=>rw [hz] at hx;simp at hx
   | some z=>
     rw [hz] at hx;simp only at hx;cases hc:bY O i with
     | none=>rw [hc] at hx;simp at hx
     | some cs=>
       have e1:zZ O' i sz o len cap=zZ O i sz o len cap:=by unfold zZ;rw [mh h hc]
       rw [hc] at hx;simp only [fq h hc,e1];exact hx
  ·exact hx
  ·rename_i n e i off hu;cases hc:bY O i with
   | none=>rw [hc] at hx;simp at hx
   | some cs=>rw [hc] at hx;simp only [fq h hc];exact hx
  ·cases hx
 ·cases hx
theorem BR {E:Env} {O O' : Tab} (h:Le O O') {sl:Nat} (hs:O' sl=O sl) {s d:Nat} {x:RV} {r:dz} (hx:qh E O sl s d x=some r):qh E O' sl s d x=some r:=by
 unfold qh at hx ⊢;split at hx
 ·rw [hs];exact hx
 ·rename_i e i sz o len cap hs hd;cases hg:(qJ (E.und e)&&Nat.beq sz 1) with
  | false=>rw [hg] at hx;simp at hx
  | true=>
    rw [hg] at hx;cases hc:bY O i with
    | none=>rw [hc] at hx;simp at hx
    | some cs=>rw [hc] at hx;simp only [fq h hc];exact hx
 ·exact hx
 ·cases hx
theorem yg {E:Env} {O O' : Tab} (h:Le O O') {sl:Nat} (hs:O' sl=O sl) {t:Nat} {s x:RV} {r:dz} (hx:kW E O sl t s x=some r):kW E O' sl t s x=some r:=by
 unfold kW at hx ⊢;split at hx
 ·rename_i e hu;split at hx
  ·rename_i z iO hz hby
   cases hsrc:jD O z x with
   | none=>rw [hsrc] at hx;simp at hx
   | some p=>
     obtain ⟨m,xs⟩:=p;rw [hsrc] at hx;simp only [qZ h hsrc,hs] at hx ⊢;cases hg:(Nat.ble 1 iO&&mH E e z) with
     | false=>rw [hg] at hx;simp at hx
     | true=>
       rw [hg] at hx;simp only [cond_true] at hx ⊢;split at hx
       ·exact hx
       ·rename_i i sz o len cap;cases hm:Nat.beq m 0 with
        | true=>rw [hm] at hx;exact hx
        | false=>
          rw [hm] at hx;simp only [cond_false] at hx ⊢;cases hc:bY O i with
          | none=>rw [hc] at hx;simp at hx
          | some cs=>
            have e1:roomFor O' i sz o len m cap cs.length=roomFor O i sz o len m cap cs.length:=by unfold roomFor;rw [mh h hc]
            rw [hc] at hx;simp only [fq h hc,qp h hc,mh h hc,e1] at hx ⊢;exact hx
       ·cases hx
  ·cases hx
 ·cases hx
theorem BS {E:Env} {O O' : Tab} (h:Le O O') {t:Nat} {x y:RV} {r:dz} (hx:qg E O t x y=some r):qg E O' t x y=some r:=by
 unfold qg at hx ⊢;split at hx
 ·rename_i e hu;cases hz:E.size e with
  | none=>rw [hz] at hx;simp at hx
  | some z=>
    rw [hz] at hx;simp only at hx ⊢;cases hsrc:jD O z y with
    | none=>rw [hsrc] at hx;simp at hx
    | some p=>
      obtain ⟨m,ys⟩:=p;rw [hsrc] at hx;simp only [qZ h hsrc] at hx ⊢;split at hx
      ·exact hx
      ·rename_i i sz o len cap;cases h0:Nat.beq (Nat.min m len) 0 with
       | true=>rw [h0] at hx;exact hx
       | false=>
         rw [h0] at hx;simp only [cond_false] at hx ⊢;cases hc:bY O i with
         | none=>rw [hc] at hx;simp at hx
         | some cs=>rw [hc] at hx;simp only [fq h hc,qp h hc] at hx ⊢;exact hx
      ·cases hx
 ·cases hx
theorem zw {E:Env} {O O' : Tab} (h:Le O O') {t:Nat} {x:RV} {r:dz} (hx:nD E O t x=some r):nD E O' t x=some r:=by
 unfold nD at hx ⊢;split at hx
 ·rename_i e hu;split at hx
  ·exact hx
  ·rename_i i sz o len cap;cases h0:Nat.beq len 0 with
   | true=>rw [h0] at hx;exact hx
   | false=>
     rw [h0] at hx;simp only [cond_false] at hx ⊢;cases hc:bY O i with
     | none=>rw [hc] at hx;simp at hx
     | some cs=>rw [hc] at hx;simp only [fq h hc,qp h hc] at hx ⊢;exact hx
  ·cases hx
 ·cases hx
theorem FQ {cf:dX} {R:Nat→RV} {O O' : Tab} (h:Le O O') {sl:Nat} (hs:O' sl=O sl) {o:Oper} {res:dz} {un:Bool} (hx:sW cf R O sl o=some (res,un)):sW cf R O' sl o=some (res,un):=by
 unfold sW at hx ⊢
 have val:∀{r r' : Option dz},nH r=some (res,un)→(r=some res→r'=some res)→nH r'=some (res,un):=by
  intro r r' h1 h2;cases r with
  | none=>simp [nH] at h1
  | some r=>simp [nH] at h1;obtain ⟨rfl,rfl⟩:=h1;rw [h2 rfl];rfl
 cases ho:o.op<;>rw [ho] at hx<;>(try simp only at hx ⊢)<;>try exact hx
 case alloc t=>
  cases hz:cf.E.zero t with
  | none=>rw [hz] at hx;simp at hx
  | some z=>
    rw [hz] at hx;simp only at hx ⊢;refine val hx fun e=>?_;unfold nA at e ⊢;rw [hs];exact e
 case box t x=>refine val hx fun e=>?_;unfold nA at e ⊢;rw [hs];exact e
 case buildSlice t n parts=>refine val hx fun e=>?_;unfold jZ at e ⊢;rw [hs];exact e
 case load t x=>exact val hx fun e=>BQ h e
 case store t x y=>
  cases h1:kF cf.E O t (aN R x) (aN R y) with
  | none=>rw [h1] at hx;simp at hx
  | some r=>rw [h1] at hx;rw [zq h h1];exact hx
 case convert s d x=>exact val hx fun e=>BR h hs e
 case slice t x lo hi mx=>exact val hx fun e=>zu h e
 case makeSlice t l c=>refine val hx fun e=>?_;unfold kS at e ⊢;rw [hs];exact e
 case range t x=>
  refine val hx fun e=>?_;unfold wX at e ⊢;rw [hs];split at e
  ·exact e
  ·rename_i i _ _;split at e
   ·rename_i hi;rw [h _ _ hi];exact e
   ·cases e
  ·cases e
 case next x str=>
  refine val hx fun e=>?_;unfold BG at e ⊢;split at e
  ·rename_i j;split at e
   ·rename_i hO;rw [h _ _ hO];exact e
   ·rename_i m hO;rw [h _ _ hO];simp only;split at e
    ·rename_i hm;rw [h _ _ hm];exact e
    ·cases e
   ·cases e
  ·cases e
 case call c=>
  cases hc:c.callee with
  | builtin b=>
    rw [hc] at hx;simp only at hx ⊢;refine val hx fun e=>?_;unfold rR at e ⊢;split at e
    ·exact e
    ·exact e
    ·rename_i t t2 x y _ _;cases hn:kg (cf.E.und t2) with
     | false=>rw [hn] at e;simp at e
     | true=>rw [hn] at e;simp only [cond_true] at e ⊢;exact yg h hs e
    ·exact BS h e
    ·exact zw h e
    ·exact e
    ·cases e
  | _=>rw [hc] at hx;simp at hx
theorem Ji {cf:dX} {R:Nat→RV} {O O' : Tab} (h:Le O O') {sl:Nat} (hs:O' sl=O sl) (hs1:O' (sl+1)=O (sl+1)) {o:Oper} {res:dz} {un:Bool} (hx:mK cf R O sl o=some (res,un))
 (hk:∀p∈res.upd,O' p.1=O p.1):mK cf R O' sl o=some (res,un):=by
 unfold mK at hx ⊢;cases hv:((cf.vm&&VJ cf.E R o)||isIt o) with
 | false=>rw [hv] at hx;exact FP h hs hs1 hx hk
 | true=>rw [hv] at hx;exact FQ h hs hx
def bM (u:List (Nat×av)):List Nat:=u.map (·.1)
theorem kH {u:List (Nat×av)}:∀{O:Tab} {i:Nat},i∉bM u→aX O u i=O i:=by
 induction u with
 | nil=>intro O i _;rfl
 | cons x r ih=>
   intro O i h;simp only [bM,List.map_cons,List.mem_cons,not_or] at h
   show aX (bF O x.1 (some x.2)) r i=O i
   rw [ih h.2,dP _ _ h.1]
theorem BU {u:List (Nat×av)}:∀{O O' : Tab} {i:Nat},i∈bM u→aX O u i=aX O' u i:=by
 induction u with
 | nil=>intro O O' i h;simp [bM] at h
 | cons x r ih=>
   intro O O' i h
   show aX (bF O x.1 (some x.2)) r i=aX (bF O' x.1 (some x.2)) r i
   by_cases hr:i∈bM r
   ·exact ih hr
   ·have e:i=x.1:=by
     simp only [bM,List.map_cons,List.mem_cons] at h;rcases h with h | h
     ·exact h
     ·exact absurd h hr
    rw [kH hr,kH hr,e,bN,bN]
def iC (L:Nat→Bool):Nat→List (List (Nat×av))→Tab→Tab
 | _,[],O=>O
 | k,u::us,O=>iC L (k+1) us (bif L k then aX O u else O)
theorem lI {L M:Nat→Bool} {i:Nat}:∀(us:List (List (Nat×av))) (k:Nat) (O O' : Tab),O i=O' i→(∀(j:Nat) (u:List (Nat×av)),us[j]? = some u→i∈bM u→L (k+j)=M (k+j))→
 iC L k us O i=iC M k us O' i
 | [],_,_,_,h,_=>h
 | u::us,k,O,O',h,hj=>by
   simp only [iC];refine lI us (k+1) _ _ ?_ (fun j u' hu hi=>by have:=hj (j+1) u' (by simpa using hu) hi;rw [show k+1+j=k+(j+1) by omega];exact this);by_cases hi:i∈bM u
   ·have:=hj 0 u rfl hi
    rw [Nat.add_zero] at this;rw [this];cases M k with
    | true=>simp only [cond_true];exact BU hi
    | false=>simp only [cond_false];exact h
   ·have key:∀(b:Bool) (X:Tab),(bif b then aX X u else X) i=X i:=fun b X=>by cases b<;>simp [kH hi]
    rw [key,key];exact h
theorem qw {L:Nat→Bool}:∀(us:List (List (Nat×av))) (k:Nat) (O:Tab),(∀j,j < us.length→L (k+j)=false)→iC L k us O=O
 | [],_,_,_=>rfl
 | u::us,k,O,h=>by
   simp only [iC]
   have:=h 0 (by simp);rw [Nat.add_zero] at this
   rw [this,cond_false];exact qw us (k+1) O (fun j hj=>by rw [show k+1+j=k+(j+1) by omega];exact h (j+1) (by simpa using hj))
theorem nI:∀(us:List (List (Nat×av))) (k n:Nat) (O:Tab),iC (fun x=>decide (x < k+n)) k us O=(us.take n).foldl aX O
 | [],_,n,O=>by simp [iC]
 | u::us,k,0,O=>by
   rw [List.take_zero,List.foldl_nil];exact qw _ _ _ (fun j _=>by simp)
 | u::us,k,n+1,O=>by
   simp only [iC,List.take_succ_cons,List.foldl_cons]
   have:decide (k < k+(n+1))=true:=by simp
   rw [this,cond_true,←nI us (k+1) n];congr 1;funext x;congr 1;apply propext;omega
theorem pE {L L' : Nat→Bool}:∀(us:List (List (Nat×av))) (k j:Nat) (u:List (Nat×av)) (O:Tab),us[j]? = some u→L (k+j)=false→L' (k+j)=true→(∀x,x≠k+j→L' x=L x)→
 (∀(x:Nat) (u' : List (Nat×av)),j < x→us[x]? = some u'→L (k+x)=true→∀i∈bM u,i∉bM u')→iC L' k us O=aX (iC L k us O) u
 | [],_,_,_,_,h,_,_,_,_=>by simp at h
 | a::us,k,0,u,O,h,h1,h2,h3,h4=>by
   simp at h;subst h;simp only [iC];rw [Nat.add_zero] at h1 h2 h3;rw [h1,h2,cond_true,cond_false]
   have rest:∀(vs:List (List (Nat×av))) (k' : Nat) (X:Tab),(∀j,L' (k'+j)=L (k'+j))→(∀(x:Nat) (u' : List (Nat×av)),vs[x]? = some u'→L (k'+x)=true→∀i∈bM a,i∉bM u')→
    iC L' k' vs (aX X a)=aX (iC L k' vs X) a:=by
    intro vs;induction vs with
    | nil=>intro k' X _ _;rfl
    | cons b vs ih=>
      intro k' X e1 e2;simp only [iC];have e0:=e1 0;rw [Nat.add_zero] at e0;rw [e0];have r1:∀j,L' (k'+1+j)=L (k'+1+j):=fun j=>by have:=e1 (j+1);rw [show k'+1+j=k'+(j+1) by omega];exact this
      have r2:∀(x:Nat) (u' : List (Nat×av)),vs[x]? = some u'→L (k'+1+x)=true→∀i∈bM a,i∉bM u':=fun x u' hu hl=>by
       exact e2 (x+1) u' (by simpa using hu) (by rw [show k'+(x+1)=k'+1+x by omega];exact hl)
      cases hL:L k' with
      | false=>simp only [cond_false];exact ih (k'+1) X r1 r2
      | true=>
        simp only [cond_true];have Zd:=e2 0 b rfl (by rw [Nat.add_zero];exact hL)
        have comm:aX (aX X a) b=aX (aX X b) a:=by
         funext i;by_cases ha:i∈bM a
         ·have hb:=Zd i ha;rw [kH hb];exact BU ha
         ·rw [kH ha (O:=aX X b)];by_cases hb:i∈bM b
          ·exact BU hb
          ·rw [kH hb,kH hb,kH ha]
        rw [comm];exact ih (k'+1) _ r1 r2
   exact rest us (k+1) O (fun j=>h3 _ (by omega)) (fun x u' hu hl=>h4 (x+1) u' (by omega) (by simpa using hu) (by rw [show k+(x+1)=k+1+x by omega];exact hl))
 | a::us,k,j+1,u,O,h,h1,h2,h3,h4=>by
   simp only [iC];rw [h3 k (by omega)]
   exact pE us (k+1) j u _ (by simpa using h) (by rw [show k+1+j=k+(j+1) by omega];exact h1) (by rw [show k+1+j=k+(j+1) by omega];exact h2)
    (fun x hx=>h3 x (by omega)) (fun x u' hx hu hl=>h4 (x+1) u' (by omega) (by simpa using hu) (by rw [show k+(x+1)=k+1+x by omega];exact hl))
inductive Before (ops:Array Oper):Nat→Nat→Prop
 | edge {j k:Nat} {o:Oper} (ho:ops[j]? = some o) {e:Edge} (he:e∈o.after) (hb:Region.binds .any e=true) (hk:e.on=k):Before ops k j
 | step {j k:Nat} {o:Oper} (ho:ops[j]? = some o) {e:Edge} (he:e∈o.after) (hb:Region.binds .any e=true) (hk:Before ops k e.on):Before ops k j
def KU (m k:Nat):Bool:=Nat.beq (m / 2 ^ k % 2) 1
theorem BX (m k:Nat):KU m k=m.testBit k:=by
 rw [Nat.testBit_eq_decide_div_mod_eq];unfold KU;by_cases h:m / 2 ^ k % 2=1
 ·rw [vK h,decide_eq_true h]
 ·rw [zJ h,decide_eq_false h]
def Hw (acc:List Nat) (o:Oper):Nat:=o.after.toList.foldl (fun m e=>bif Region.binds .any e then (m ||| 2 ^ e.on) ||| acc.getD e.on 0 else m) 0
def zx:List Oper→List Nat→List Nat
 | [],acc=>acc
 | o::r,acc=>zx r (acc++[Hw acc o])
theorem FR {ops:Array Oper} {acc:List Nat} {o:Oper} {j:Nat} (ho:ops[j]? = some o) (hacc:∀(i k:Nat),(acc.getD i 0).testBit k=true→Before ops k i) {k:Nat} (h:(Hw acc o).testBit k=true):Before ops k j:=by
 unfold Hw at h
 have key:∀(l:List Edge) (m:Nat),(∀e∈l,e∈o.after)→(m.testBit k=true→Before ops k j)→
  (l.foldl (fun m e=>bif Region.binds .any e then (m ||| 2 ^ e.on) ||| acc.getD e.on 0 else m) m).testBit k=true→Before ops k j:=by
  intro l;induction l with
  | nil=>intro m _ hm h;exact hm h
  | cons e l ih=>
    intro m hl hm h;simp only [List.foldl_cons] at h;refine ih _ (fun x hx=>hl x (by simp [hx])) (fun h2=>?_) h;cases hb:Region.binds .any e with
    | false=>rw [hb] at h2;exact hm h2
    | true=>
      rw [hb] at h2;simp only [cond_true,Nat.testBit_or,Bool.or_eq_true,Nat.testBit_two_pow,decide_eq_true_eq] at h2;rcases h2 with (h2 | h2) | h2
      ·exact hm h2
      ·exact .edge ho (hl e (by simp)) hb h2
      ·exact .step ho (hl e (by simp)) hb (hacc _ _ h2)
 exact key o.after.toList 0 (fun e he=>by simpa using he) (fun h=>by simp at h) h
theorem qx {ops:Array Oper}:∀(l:List Oper) (acc:List Nat),(∀(i:Nat) (o:Oper),l[i]? = some o→ops[acc.length+i]? = some o)→(∀(i k:Nat),(acc.getD i 0).testBit k=true→Before ops k i)→
 ∀(i k:Nat),((zx l acc).getD i 0).testBit k=true→Before ops k i
 | [],acc,_,h=>h
 | o::r,acc,hl,h=>by
   refine qx r (acc++[Hw acc o]) (fun i o' hi=>?_) (fun i k hk=>?_)
   ·have:=hl (i+1) o' (by simpa using hi)
    rw [←this];congr 1;simp;omega
   ·rcases Nat.lt_trichotomy i acc.length with hi | hi | hi
    ·refine h i k ?_;rw [List.getD_eq_getElem?_getD,List.getElem?_append_left hi] at hk;rw [List.getD_eq_getElem?_getD];exact hk
    ·subst hi;rw [List.getD_eq_getElem?_getD,List.getElem?_append_right (Nat.le_refl _)] at hk;simp at hk;exact FR (by simpa using hl 0 o rfl) h hk
    ·rw [List.getD_eq_getElem?_getD,List.getElem?_append_right (by omega)] at hk
     have:i-acc.length≠0:=by omega
     simp [this] at hk
theorem Before.done {ops:Array Oper} {L:Nat→Bool} (hL:∀(j:Nat) (o:Oper),ops[j]? = some o→L j=true→∀e∈o.after,Region.binds .any e=true→L e.on=true) {k j:Nat} (h:Before ops k j) (hj:L j=true):L k=true:=by
 induction h with
 | edge ho he hb hk=>subst hk;exact hL _ _ ho hj _ he hb
 | step ho he hb _ ih=>exact ih (hL _ _ ho hj _ he hb)
theorem Before.ready {ops:Array Oper} {L:Nat→Bool} (hL:∀(j:Nat) (o:Oper),ops[j]? = some o→L j=true→∀e∈o.after,Region.binds .any e=true→L e.on=true) {k j:Nat} (h:Before ops k j)
 (hj:∀o,ops[j]? = some o→∀e∈o.after,Region.binds .any e=true→L e.on=true):L k=true:=by
 cases h with
 | edge ho he hb hk=>subst hk;exact hj _ ho _ he hb
 | step ho he hb hk=>exact hk.done hL (hj _ ho _ he hb)
def Wv (o:Oper):Bool:=match o.op with
 | .move _=>false
 | .assign _=>false
 | .pick _ _ _=>false
 | .build _ _=>false
 | .nilCheck _=>false
 | .unOp _ _ _=>false
 | .fieldAddr _ _ _=>false
 | .field _ _ _=>false
 | .index _ _ _=>false
 | .extract _ _=>false
 | _=>true
def Ww:RV→List Nat
 | .own i _=>[i]
 | _=>[]
def foot (R:Nat→RV) (O:Tab) (o:Oper):List Nat:=match o.op with
 | .call c=>match c.callee with
   | .builtin _=>c.args.toList.flatMap fun x=>(aN R x).refs 6
   | _=>reach O 400 (o.op.operands.toList.flatMap fun x=>(aN R x).refs 6) []
 | .store _ x _=>(aN R x).refs 6
 | .box _ _=>[]
 | .alloc _=>[]
 | .buildSlice _ _ _=>[]
 | .makeFunc _ _ _=>[]
 | .indexAddr _ x _=>Ww (aN R x)
 | _=>bif Wv o then o.op.operands.toList.flatMap fun x=>(aN R x).refs 6 else []
def nJ (F:List Nat) (O:Tab):Tab:=fun i=>bif F.any (fun j=>Nat.beq j i) then O i else none
def lJ (O:Tab) (F ks:List Nat):Bool:=ks.all fun i=>F.any (fun j=>Nat.beq j i)||(O i).isNone
def bI (n z:Nat) (o:Oper):Nat:=match o.dst with
 | some d=>z+32*d
 | none=>z+32*n
def qO (cf:dX) (ops:Array Oper) (ov:Ov) (R:Nat→RV) (O:Tab) (sl:Nat) (o:Oper):Option (RV×List (Nat×av)×List Bool×List (RV×RV)):=
 match guardOf R ops o with
 | none=>none
 | some false=>some (.und,[],[],[])
 | some true=>match mK cf R O sl o with
   | none=>none
   | some (res,_)=>match o.dst with
     | none=>some (.bot,res.upd,res.conds,[])
     | some d=>match uT d ov with
       | none=>some (res.val,res.upd,res.conds,[])
       | some v=>some (v,res.upd,res.conds,[(res.val,v)])
theorem Hy {κ:bE} {φ:bP} {w:World} {s:cu} {a:Act} {cf:dX} (hcf:jE P cf) {ops:Array Oper} {ov:Ov} {o:Oper} {v:RV} {u:List (Nat×av)} {cs:List Bool} {es:List (RV×RV)} {sl:Nat} (F:aA κ φ w s a)
 (h:qO cf ops ov s.R s.O sl o=some (v,u,cs,es)) (hc:∀c∈cs,c=true) (he:∀e∈es,jF e.1 e.2) {i:Nat} (hi:ops[i]? = some o)
 (hn:∀(j:Nat) (gg:Oper) (t:Nat),ops[j]? = some gg→gg.dst=some t→t < s.n) {Q:Exit→Act→World→Prop} {K:Act→World→Prop}
 (hk:∀a' w' κ' φ',aA κ' φ' w' { s with R:=iX s.R o.dst v,O:=aX s.O u } a'→Fr κ w κ' w'→Kp φ s.O φ' (aX s.O u)→K a' w'):wpOp P ops Q i K a w:=by
 unfold qO at h;unfold wpOp;rw [hi];simp only;have hdst:∀d,o.dst=some d→d < s.n:=fun d hd=>hn i o d hi hd;split at h
 ·simp at h
 ·rename_i hg;rw [gq F hg (fun j want gg t _ hj ht=>hn j gg t hj ht)];simp only [Bool.false_eq_true,if_false];injection h with h;injection h with h1 h2;injection h2 with h2 h3;subst h1;subst h2;exact hk _ _ κ φ (F.iX hdst .und) (Fr.refl _ _) (Kp.refl _ _)
 ·rename_i hg;rw [gq F hg (fun j want gg t _ hj ht=>hn j gg t hj ht)];simp only [if_true];left;split at h
  ·simp at h
  ·rename_i res un hex
   have fin:∀rv,v=rv→u=res.upd→jF res.val rv∨o.dst=none→(∀c∈res.conds,c=true)→o.wp P a w K Q:=by
    rintro rv rfl rfl hle hcc
    refine DY hcf F (sl:=sl) hex hcc (fun u' w' κ' φ' g1 g2 g3 g4=>?_);refine hk _ _ κ' φ' ?_ g3 g4;rcases hle with hle | hle
    ·exact aA.iX (s:={ s with O:=aX s.O res.upd }) g1 hdst (hle _ _ _ _ _ g2)
    ·rw [hle];exact aA.wU g1 u'
   split at h
   ·rename_i hd;injection h with h;injection h with h1 h2;injection h2 with h2 h3;injection h3 with h3 h4;subst h3;exact fin v rfl h2.symm (.inr hd) hc
   ·split at h
    ·injection h with h;injection h with h1 h2;injection h2 with h2 h3;injection h3 with h3 h4;subst h3;exact fin v rfl h2.symm (.inl (h1▸fun _ _ _ _ _ r=>r)) hc
    ·rename_i vv hv;injection h with h;injection h with h1 h2;injection h2 with h2 h3;injection h3 with h3 h4;subst h3;subst h4;subst h1;exact fin _ rfl h2.symm (.inl (he (res.val,vv) (by simp))) hc
def yh (cf:dX) (ops:Array Oper) (ov:Ov) (n z:Nat):List Oper→T RV→T av→List Bool→List (RV×RV)→List (List Nat×List Nat)→Option (T RV×T av×List Bool×List (RV×RV)×List (List Nat×List Nat))
 | [],t,ob,cs,es,rs=>some (t,ob,cs,es,rs)
 | o::r,t,ob,cs,es,rs=>
   match qO cf ops ov (bg t) (nJ (foot (bg t) ob.get o) ob.get) (bI n z o) o with
   | none=>none
   | some (v,u,c,e)=>
     bif oV u&&lJ ob.get (foot (bg t) ob.get o) (bI n z o::(bI n z o+1)::bM u) then
      match o.dst with
      | none=>yh cf ops ov n z r t (ji ob u) (cs++c) (es++e) (rs++[(foot (bg t) ob.get o++bI n z o::(bI n z o+1)::bM u,bM u)])
      | some d=>bif Nat.ble d 8000 then yh cf ops ov n z r (t.set d (some v)) (ji ob u) (cs++c) (es++e) (rs++[(foot (bg t) ob.get o++bI n z o::(bI n z o+1)::bM u,bM u)]) else none
     else none
theorem qy {cf:dX} {ops:Array Oper} {ov:Ov} {n z:Nat}:∀(l:List Oper) (t t' : T RV) (ob BZ : T av) (cs cs' : List Bool) (es es' : List (RV×RV)) (rs rs' : List (List Nat×List Nat)),
 yh cf ops ov n z l t ob cs es rs=some (t',BZ,cs',es',rs')→(∀c∈cs,c∈cs')∧(∀e∈es,e∈es')∧(∀d,(∀o∈l,o.dst≠some d)→bg t' d=bg t d)
 | [],t,t',ob,BZ,cs,cs',es,es',rs,rs',h=>by
   simp [yh] at h;obtain ⟨rfl,rfl,rfl,rfl,rfl⟩:=h;exact ⟨fun _ h=>h,fun _ h=>h,fun _ _=>rfl⟩
 | o::r,t,t',ob,BZ,cs,cs',es,es',rs,rs',h=>by
   simp only [yh] at h;split at h
   ·simp at h
   ·rename_i v u c e h1;cases hb0:(oV u&&lJ ob.get (foot (bg t) ob.get o) (bI n z o::(bI n z o+1)::bM u)) with
    | false=>rw [hb0] at h;simp at h
    | true=>
      rw [hb0] at h;simp only [cond_true] at h;cases hd:o.dst with
      | none=>
        rw [hd] at h;simp only at h;obtain ⟨q1,q2,q3⟩:=qy r _ _ _ _ _ _ _ _ _ _ h;exact ⟨fun c hc=>q1 c (by simp [hc]),fun e he=>q2 e (by simp [he]),fun d hh=>q3 d (fun o ho=>hh o (by simp [ho]))⟩
      | some d0=>
        rw [hd] at h;simp only at h;cases hb:Nat.ble d0 8000 with
        | false=>rw [hb] at h;simp at h
        | true=>
          rw [hb] at h;simp only [cond_true] at h;obtain ⟨q1,q2,q3⟩:=qy r _ _ _ _ _ _ _ _ _ _ h;have hle:=Nat.le_of_ble_eq_true hb;refine ⟨fun c hc=>q1 c (by simp [hc]),fun e he=>q2 e (by simp [he]),fun d hh=>?_⟩;rw [q3 d (fun o ho=>hh o (by simp [ho])),jy (by omega)]
          have:d≠d0:=fun e=>hh o (by simp) (by rw [hd,e])
          simp [jh,this]
theorem Hz {cf:dX} {ops:Array Oper} {ov:Ov} {n z:Nat}:∀(l:List Oper) (t t' : T RV) (ob BZ : T av) (cs cs' : List Bool) (es es' : List (RV×RV)) (rs rs' : List (List Nat×List Nat)),
 yh cf ops ov n z l t ob cs es rs=some (t',BZ,cs',es',rs')→
 (∀(i j:Nat) (p q:Oper) (d:Nat),l[i]? = some p→l[j]? = some q→p.dst=some d→q.dst=some d→i=j)→
 ∃(us:List (List (Nat×av))) (rr:List (List Nat×List Nat)),us.length=l.length∧rs'=rs++rr∧rr.length=l.length∧BZ.get=us.foldl aX ob.get∧
 ∀(j:Nat) (o:Oper),l[j]? = some o→∃(R:Nat→RV) (F:List Nat) (v:RV) (u:List (Nat×av)) (c:List Bool) (e:List (RV×RV)),
  qO cf ops ov R (nJ F ((us.take j).foldl aX ob.get)) (bI n z o) o=some (v,u,c,e)∧us[j]? = some u∧rr[j]? = some (F++bI n z o::(bI n z o+1)::bM u,bM u)∧
  lJ ((us.take j).foldl aX ob.get) F (bI n z o::(bI n z o+1)::bM u)=true∧(∀x∈c,x∈cs')∧(∀x∈e,x∈es')∧
  (∀d,o.dst=some d→bg t' d=v)∧(∀d,(∀(i:Nat) (p:Oper),i < j→l[i]? = some p→p.dst≠some d)→R d=bg t d)∧
  (∀(i:Nat) (p:Oper) (d:Nat),i < j→l[i]? = some p→p.dst=some d→R d=bg t' d)
 | [],t,t',ob,BZ,cs,cs',es,es',rs,rs',h,hnd=>by
   simp [yh] at h;obtain ⟨rfl,rfl,rfl,rfl,rfl⟩:=h;exact ⟨[],[],rfl,by simp,rfl,rfl,fun j o hj=>by simp at hj⟩
 | o0::r,t,t',ob,BZ,cs,cs',es,es',rs,rs',h,hnd=>by
   simp only [yh] at h;split at h
   ·simp at h
   ·rename_i v u c e h1;cases hb0:(oV u&&lJ ob.get (foot (bg t) ob.get o0) (bI n z o0::(bI n z o0+1)::bM u)) with
    | false=>rw [hb0] at h;simp at h
    | true=>
      rw [hb0] at h;simp only [cond_true] at h;simp only [Bool.and_eq_true] at hb0;have hset:=rT u ob hb0.1
      have hnd' : ∀(i j:Nat) (p q:Oper) (d:Nat),r[i]? = some p→r[j]? = some q→p.dst=some d→q.dst=some d→i=j:=fun i j p q d hi hj' hp hq=>by
       have:=hnd (i+1) (j+1) p q d (by simpa using hi) (by simpa using hj') hp hq;omega
      have tail:∀(t1:T RV),yh cf ops ov n z r t1 (ji ob u) (cs++c) (es++e) (rs++[(foot (bg t) ob.get o0++bI n z o0::(bI n z o0+1)::bM u,bM u)])=some (t',BZ,cs',es',rs')→
       (∀d,o0.dst≠some d→bg t1 d=bg t d)→(∀d,o0.dst=some d→bg t1 d=v)→
       ∃(us:List (List (Nat×av))) (rr:List (List Nat×List Nat)),us.length=(o0::r).length∧rs'=rs++rr∧rr.length=(o0::r).length∧BZ.get=us.foldl aX ob.get∧
       ∀(j:Nat) (o:Oper),(o0::r)[j]? = some o→∃(R:Nat→RV) (F:List Nat) (v:RV) (u:List (Nat×av)) (c:List Bool) (e:List (RV×RV)),
        qO cf ops ov R (nJ F ((us.take j).foldl aX ob.get)) (bI n z o) o=some (v,u,c,e)∧us[j]? = some u∧rr[j]? = some (F++bI n z o::(bI n z o+1)::bM u,bM u)∧
        lJ ((us.take j).foldl aX ob.get) F (bI n z o::(bI n z o+1)::bM u)=true∧(∀x∈c,x∈cs')∧(∀x∈e,x∈es')∧
        (∀d,o.dst=some d→bg t' d=v)∧(∀d,(∀(i:Nat) (p:Oper),i < j→(o0::r)[i]? = some p→p.dst≠some d)→R d=bg t d)∧
        (∀(i:Nat) (p:Oper) (d:Nat),i < j→(o0::r)[i]? = some p→p.dst=some d→R d=bg t' d):=by
       intro t1 hr ht1 ht2;obtain ⟨m1,m2,m3⟩:=qy r _ _ _ _ _ _ _ _ _ _ hr;obtain ⟨us,rr,a1,a2,a3,a4,a5⟩:=Hz r t1 t' _ _ _ _ _ _ _ _ hr hnd';refine ⟨u::us,(foot (bg t) ob.get o0++bI n z o0::(bI n z o0+1)::bM u,bM u)::rr,by simp [a1],by rw [a2];simp,by simp [a3],by rw [a4,hset];rfl,fun j o hj=>?_⟩;cases j with
       | zero=>
         simp at hj;subst hj;refine ⟨bg t,foot (bg t) ob.get o0,v,u,c,e,h1,rfl,rfl,hb0.2,fun x hx=>m1 x (by simp [hx]),fun x hx=>m2 x (by simp [hx]),fun d hd=>?_,fun d _=>rfl,fun i p d hi=>by omega⟩
         rw [m3 d (fun q hq qN=>by
          obtain ⟨k,hk⟩:=List.mem_iff_getElem?.1 hq
          have:=hnd 0 (k+1) o0 q d rfl (by simpa using hk) hd qN;omega)]
         exact ht2 d hd
       | succ j=>
         obtain ⟨R,F,v',u',c',e',k1,k2,k3,k4,k5,k6,k7,k8,k9⟩:=a5 j o (by simpa using hj);rw [hset] at k1 k4;refine ⟨R,F,v',u',c',e',by simpa using k1,by simpa using k2,by simpa using k3,by simpa using k4,k5,k6,k7,fun d hd=>?_,fun i p d hi hp wI=>?_⟩
         ·rw [k8 d (fun i p hi hp=>hd (i+1) p (by omega) (by simpa using hp))];exact ht1 d (hd 0 o0 (by omega) rfl)
         ·cases i with
          | zero=>
            simp at hp;subst hp
            rw [k8 d (fun i q hi hq qN=>by
             have:=hnd 0 (i+1) o0 q d rfl (by simpa using hq) wI qN;omega)]
            rw [m3 d (fun q hq qN=>by
             obtain ⟨k,hk⟩:=List.mem_iff_getElem?.1 hq
             have:=hnd 0 (k+1) o0 q d rfl (by simpa using hk) wI qN;omega)]
          | succ i=>exact k9 i p d (by omega) (by simpa using hp) wI
      cases hd:o0.dst with
      | none=>
        rw [hd] at h;simp only at h;exact tail t h (fun _ _=>rfl) (fun d hh=>by rw [hd] at hh;cases hh)
      | some d0=>
        rw [hd] at h;simp only at h;cases hb:Nat.ble d0 8000 with
        | false=>rw [hb] at h;simp at h
        | true=>
          rw [hb] at h;simp only [cond_true] at h;have hle:=Nat.le_of_ble_eq_true hb;refine tail _ h (fun d hh=>?_) (fun d hh=>?_)
          ·rw [jy (by omega)]
           have:d≠d0:=fun e=>hh (by rw [hd,e])
           simp [jh,this]
          ·rw [jy (by omega)];rw [hd] at hh;injection hh with hh;subst hh;simp [jh]
def hits (a b:List Nat):Bool:=a.any fun i=>b.any fun j=>Nat.beq j i
theorem wY {a b:List Nat} {i:Nat} (h1:i∈a) (h2:i∈b):hits a b=true:=
 List.any_eq_true.2 ⟨i,h1,List.any_eq_true.2 ⟨i,h2,vK rfl⟩⟩
def pF (rs:List (List Nat×List Nat)) (ms:List Nat):Bool:=rs.zipIdx.all fun (rj,j)=>rs.zipIdx.all fun (rk,k)=>
 !(Nat.ble (k+1) j)||(!(hits rk.2 rj.1) && !(hits rj.2 rk.1))||KU (ms.getD j 0) k
theorem mo {rs:List (List Nat×List Nat)} {ms:List Nat} (h:pF rs ms=true) {j k:Nat} {rj rk:List Nat×List Nat} (hj:rs[j]? = some rj) (hk:rs[k]? = some rk) (hlt:k < j)
 (hh:hits rk.2 rj.1=true∨hits rj.2 rk.1=true):(ms.getD j 0).testBit k=true:=by
 have h1:=List.all_eq_true.1 h (rj,j) (by rw [List.mem_zipIdx_iff_getElem?];exact hj);have h2:=List.all_eq_true.1 h1 (rk,k) (by rw [List.mem_zipIdx_iff_getElem?];exact hk);simp only [Bool.or_eq_true,Bool.and_eq_true,Bool.not_eq_true'] at h2;rw [←BX];rcases h2 with (h2 | h2) | h2
 ·rw [Nat.ble_eq_true_of_le (by omega)] at h2;cases h2
 ·rcases hh with hh | hh
  ·rw [h2.1] at hh;cases hh
  ·rw [h2.2] at hh;cases hh
 ·exact h2
theorem tJ {F:List Nat} {O:Tab} {i:Nat} (h:(F.any fun j=>Nat.beq j i)=true):nJ F O i=O i:=by simp [nJ,h]
theorem qz {F:List Nat} {O:Tab} {i:Nat} (h:(F.any fun j=>Nat.beq j i)=false):nJ F O i=none:=by simp [nJ,h]
theorem HV {F:List Nat} {i:Nat} (h:(F.any fun j=>Nat.beq j i)=true):i∈F:=by
 obtain ⟨j,h1,h2⟩:=List.any_eq_true.1 h
 have:=cB h2;subst this;exact h1
theorem Ae {cf:dX} {ops:Array Oper} {ov:Ov} {R R' : Nat→RV} {O O' : Tab} {sl:Nat} {o:Oper} {r:RV×List (Nat×av)×List Bool×List (RV×RV)} (h:qO cf ops ov R O sl o=some r)
 (hg:guardOf R' ops o=guardOf R ops o) (hr:∀x∈o.op.operands,aN R x=aN R' x) (hO:Le O O') (hs:O' sl=O sl) (hs1:O' (sl+1)=O (sl+1)) (hk:∀p∈r.2.1,O' p.1=O p.1):qO cf ops ov R' O' sl o=some r:=by
 unfold qO at h ⊢;rw [hg];split at h
 ·cases h
 ·exact h
 ·split at h
  ·cases h
  ·rename_i res un hex
   have hu:r.2.1=res.upd:=by
    split at h
    ·injection h with h;subst h;rfl
    ·split at h<;>(injection h with h;subst h;rfl)
   rw [nW (R:=R) (R':=R') hr] at hex;rw [Ji hO hs hs1 hex (fun p hp=>hk p (by rw [hu];exact hp))];exact h
theorem OH {cf:dX} (hcf:jE P cf) {ops:Array Oper} {ov:Ov} {s:cu} {t t' : T RV} {ob BZ : T av} {cs:List Bool} {es:List (RV×RV)} {rs:List (List Nat×List Nat)} {z m:Nat} {κ:bE} {φ:bP} {w:World} {a:Act}
 (hq:iP ops=true) (hg:dF s.n ops=true) (hs:s.R=bg t) (hsO:s.O=ob.get) (hrun:yh cf ops ov s.n z ops.toList t ob [] [] []=some (t',BZ,cs,es,rs))
 (hrows:pF rs (zx ops.toList [])=true) (hc:∀c∈cs,c=true) (he:∀e∈es,jF e.1 e.2) (F0:aA κ φ w s a) :
 wpAny P .any ops (fun e a' w'=>e = .normal∧∃κ' φ',aA κ' φ' w' { s with R:=bg t',O:=BZ.get } a'∧Fr κ w κ' w'∧nP m φ s.O φ' BZ.get) ops.size (Array.replicate ops.size false) a w:=by
 have hnd:∀(i j:Nat) (p q:Oper) (d:Nat),ops.toList[i]? = some p→ops.toList[j]? = some q→p.dst=some d→q.dst=some d→i=j:=by
  intro i j p q d hi hj hp qN;rcases ((dh hq (j:=j) (o:=q) (by simpa using hj)).2 i p d (by simpa using hi) hp).1 with h | h
  ·exact h
  ·exact absurd qN h
 obtain ⟨us,rr,ul,hrs,rl,DL,hat⟩:=Hz ops.toList t t' ob BZ [] cs [] es [] rs hrun hnd;rw [List.nil_append] at hrs;subst hrs;have hout:=(qy ops.toList t t' ob BZ [] cs [] es [] rs hrun).2.2;have Y7:us.length=ops.size:=by simpa using ul
 have KV:=qx (ops:=ops) ops.toList [] (fun i o hi=>by simpa using hi) (fun i k h=>by simp at h)
 have full:∀(L:Array Bool),L.size=ops.size→(∀i,i < ops.size→L.getD i true=true)→bU ops s.R (bg t') L=bg t'∧iC (fun i=>L.getD i false) 0 us s.O=BZ.get:=by
  intro L hL hall
  have Ee:∀i,i < ops.size→L.getD i false=true:=fun i hi=>by
   have hlt2:i < L.size:=by omega
   have:=hall i hi
   simp [Array.getD,hlt2] at this ⊢;exact this
  constructor
  ·funext d;unfold bU;split
   ·rfl
   ·rename_i hne;rw [hs,hout d (fun o ho hd=>hne ?_)];obtain ⟨i,hi⟩:=List.mem_iff_getElem?.1 ho;have hi' : ops[i]? = some o:=by simpa using hi
    exact ⟨i,o,hi',hd,Ee i (Array.getElem?_eq_some_iff.1 hi').1⟩
  ·rw [DL,hsO];funext i;have e1:=nI us 0 us.length ob.get;rw [List.take_length] at e1;rw [←e1];refine lI us 0 _ _ rfl (fun j u hu _=>?_);have hj:=(List.getElem?_eq_some_iff.1 hu).1;rw [Nat.zero_add,Ee j (by omega)];simp [hj]
 have main:∀(fuel:Nat) (L:Array Bool) (κ1:bE) (φ1:bP) (w1:World) (a1:Act),L.size=ops.size→L.toList.countP (· == false)=fuel→
  (∀(j:Nat) (o:Oper),ops[j]? = some o→L.getD j false=true→∀e∈o.after,Region.binds .any e=true→L.getD e.on false=true)→
  aA κ1 φ1 w1 { s with R:=bU ops s.R (bg t') L,O:=iC (fun i=>L.getD i false) 0 us s.O } a1→
  Fr κ w κ1 w1→nP m φ s.O φ1 (iC (fun i=>L.getD i false) 0 us s.O)→
  wpAny P .any ops (fun e a' w'=>e = .normal∧∃κ' φ',aA κ' φ' w' { s with R:=bg t',O:=BZ.get } a'∧Fr κ w κ' w'∧nP m φ s.O φ' BZ.get) fuel L a1 w1:=by
  intro fuel;induction fuel with
  | zero=>
    intro L κ1 φ1 w1 a1 hL hcnt hcl F hR hK;have hall:=lH hcnt;obtain ⟨f1,f2⟩:=full L hL (fun i hi=>hall i (by omega));rw [f1,f2] at F;rw [f2] at hK;refine ⟨?_,rfl,κ1,φ1,F,hR,hK⟩;cases hr:Region.ready .any ops L with
    | nil=>rfl
    | cons i r=>
      obtain ⟨o,_,h1,h2,_⟩:=mem_ready (md:=.any) (ops:=ops) (L:=L) (i:=i) (by rw [hr];simp);rw [hall i (by omega)] at h2;cases h2
  | succ fuel ih=>
    intro L κ1 φ1 w1 a1 hL hcnt hcl F hR hK;refine ⟨fun hr=>?_,fun j hj=>?_⟩
    ·have hall:=ready_nil hL (fun j o ho=>(dh hq ho).1) hr;obtain ⟨f1,f2⟩:=full L hL hall;rw [f1,f2] at F;rw [f2] at hK;exact ⟨rfl,κ1,φ1,F,hR,hK⟩
    ·obtain ⟨o,ho,hjn,hlj,iK⟩:=mem_ready hj;obtain ⟨R,Fj,v,u,c,e,k1,k2,k3,k4,kc,ke,k5,k6,k7⟩:=hat j o (by simpa using ho);obtain ⟨s1,s2⟩:=dh hq ho
     have oZ:L.getD j false=false:=by
      have:j < L.size:=by omega
      simp [Array.getD,this] at hlj ⊢;exact hlj
     have same:∀d,d∈looks o ops→bU ops s.R (bg t') L d=R d:=by
      intro d hd;by_cases hw:∃(i:Nat) (p:Oper),ops[i]? = some p∧p.dst=some d
      ·obtain ⟨i,p,hi,hp⟩:=hw;rcases (s2 i p d hi hp).2 hd with ⟨hij,ed,he1,he2,xY⟩ | ⟨hij,ed,he1,he2,xY⟩
       ·have OG:L.getD i false=true:=by rw [←he2];exact iK ed he1 xY
        unfold bU;rw [if_pos ⟨i,p,hi,hp,OG⟩];exact (k7 i p d hij (by simpa using hi) hp).symm
       ·have only:∀(i' : Nat) (p' : Oper),ops[i']? = some p'→p'.dst=some d→i'=i:=fun i' p' h1 h2=>hnd i' i p' p d (by simpa using h1) (by simpa using hi) h2 hp;unfold bU
        rw [if_neg (fun ⟨i',p',h1,h2,h3⟩=>by
         have e:=only i' p' h1 h2;subst e;rw [h1] at hi;injection hi with hi;subst hi
         have:=hcl i' p' h1 h3 ed he1 xY
         rw [he2,oZ] at this;cases this),hs]
        exact (k6 d (fun i' p' h0 h1 h2=>by have:=only i' p' (by simpa using h1) h2;omega)).symm
      ·unfold bU;rw [if_neg (fun ⟨i,p,hi,hp,_⟩=>hw ⟨i,p,hi,hp⟩),hs];exact (k6 d (fun i p _ hp wI=>hw ⟨i,p,by simpa using hp,wI⟩)).symm
     have Ca:guardOf (bU ops s.R (bg t') L) ops o=guardOf R ops o:=by
      unfold guardOf;cases hgu:o.guard with
      | none=>rfl
      | some p=>
        obtain ⟨g,want⟩:=p;simp only;cases hog:ops[g]? with
        | none=>rfl
        | some gg=>
          simp only;cases hgd:gg.dst with
          | none=>rfl
          | some d=>
            simp only;rw [same d (by simp only [looks,List.mem_append];right;rw [hgu];simp only [hog,hgd];simp)]
     have KW:∀x∈o.op.operands,aN R x=aN (bU ops s.R (bg t') L) x:=fun x hx=>lG fun d hd=>by
      subst hd;refine (same d ?_).symm;simp only [looks,List.mem_append,List.mem_filterMap];left;exact ⟨.tmp d,by simpa using hx,rfl⟩
     have rowAt:∀(x:Nat) (u' : List (Nat×av)),us[x]? = some u'→∃tx,rs[x]? = some (tx,bM u')∧∀i∈bM u',i∈tx:=by
      intro x u' hu';have hx:=(List.getElem?_eq_some_iff.1 hu').1;have hox:ops.toList[x]? = some ops.toList[x]:=by simp [show x < ops.size by omega]
      obtain ⟨_,F',_,u2,_,_,_,g2,g3,_⟩:=hat x _ hox;rw [hu'] at g2;injection g2 with g2;subst g2;exact ⟨_,g3,fun i hi=>by simp [hi]⟩
     have before:∀(x:Nat) (u' : List (Nat×av)) (i:Nat),x < j→us[x]? = some u'→i∈bM u'→i∈(Fj++bI s.n z o::(bI s.n z o+1)::bM u)→L.getD x false=true:=by
      intro x u' i hxj hu' hi ht;obtain ⟨tx,g1,_⟩:=rowAt x u' hu'
      exact (KV j x (mo hrows k3 g1 hxj (.inl (wY hi ht)))).ready (L:=fun i=>L.getD i false) hcl (fun o' ho' e he hb=>by
       rw [ho] at ho';injection ho' with ho';subst ho';exact iK e he hb)
     have after:∀(x:Nat) (u' : List (Nat×av)) (i:Nat),j < x→us[x]? = some u'→i∈bM u'→i∈(Fj++bI s.n z o::(bI s.n z o+1)::bM u)→L.getD x false=false:=by
      intro x u' i hxj hu' hi ht;obtain ⟨tx,g1,_⟩:=rowAt x u' hu';cases hlx:L.getD x false with
      | false=>rfl
      | true=>
        have:=(KV x j (mo hrows g1 k3 hxj (.inr (wY hi ht)))).done (L:=fun i=>L.getD i false) hcl hlx
        rw [oZ] at this;cases this
     have agree:∀i,i∈(Fj++bI s.n z o::(bI s.n z o+1)::bM u)→iC (fun i=>L.getD i false) 0 us s.O i=(us.take j).foldl aX ob.get i:=by
      intro i hi;have e1:=nI us 0 j ob.get;rw [←e1,hsO];refine lI us 0 _ _ rfl (fun x u' hu' hk=>?_);rw [Nat.zero_add,Nat.zero_add];rcases Nat.lt_trichotomy x j with h | h | h
      ·rw [before x u' i h hu' hk hi];simp [h]
      ·subst h;rw [oZ];simp
      ·rw [after x u' i h hu' hk hi]
       have:¬x < j:=by omega
       simp [this]
     have rW:∀i,i∈(bI s.n z o::(bI s.n z o+1)::bM u)→iC (fun i=>L.getD i false) 0 us s.O i=nJ Fj ((us.take j).foldl aX ob.get) i:=by
      intro i hi;rw [agree i (List.mem_append.2 (.inr hi))];cases hF:(Fj.any fun j=>Nat.beq j i) with
      | true=>rw [tJ hF]
      | false=>
        rw [qz hF]
        have:=List.all_eq_true.1 k4 i hi
        rw [hF] at this;simpa using this
     have hev:qO cf ops ov (bU ops s.R (bg t') L) (iC (fun i=>L.getD i false) 0 us s.O) (bI s.n z o) o=some (v,u,c,e):=by
      refine Ae k1 Ca KW (fun i p hp=>?_) (rW _ (by simp)) (rW _ (by simp)) (fun p hp=>rW _ (by simp [bM];exact .inr (.inr ⟨p.2,hp⟩)));cases hF:(Fj.any fun j=>Nat.beq j i) with
      | true=>
        rw [tJ hF] at hp;rw [agree i (List.mem_append.2 (.inl (HV hF)))];exact hp
      | false=>rw [qz hF] at hp;cases hp
     refine Hy hcf F hev (fun x hx=>hc x (kc x hx)) (fun x hx=>he x (ke x hx)) ho (dw hg) (fun a' w' κ' φ' g1 g2 g3=>?_)
     have hget:∀i,(L.setIfInBounds j true).getD i false=if i=j then true else L.getD i false:=by
      intro i;simp only [Array.getD_eq_getD_getElem?,Array.getElem?_setIfInBounds];by_cases e:i=j
      ·subst e;have:i < L.size:=by omega
       simp [this]
      ·have:¬j=i:=fun h=>e h.symm
       simp [e,this]
     have hset:iX (bU ops s.R (bg t') L) o.dst v=bU ops s.R (bg t') (L.setIfInBounds j true):=by
      funext d;cases hd:o.dst with
      | none=>
        simp only [iX];unfold bU;congr 1;apply propext;constructor
        ·rintro ⟨i,p,h1,h2,h3⟩
         exact ⟨i,p,h1,h2,by rw [hget];split;rfl;exact h3⟩
        ·rintro ⟨i,p,h1,h2,h3⟩
         rw [hget] at h3;by_cases e:i=j
         ·subst e;rw [ho] at h1;injection h1 with h1;subst h1;rw [hd] at h2;cases h2
         ·rw [if_neg e] at h3;exact ⟨i,p,h1,h2,h3⟩
      | some d0=>
        simp only [iX,jh];by_cases e0:d=d0
        ·subst e0;rw [if_pos rfl];unfold bU;rw [if_pos ⟨j,o,ho,hd,by rw [hget];simp⟩,k5 d hd]
        ·rw [if_neg e0];unfold bU;congr 1;apply propext;constructor
         ·rintro ⟨i,p,h1,h2,h3⟩
          exact ⟨i,p,h1,h2,by rw [hget];split;rfl;exact h3⟩
         ·rintro ⟨i,p,h1,h2,h3⟩
          rw [hget] at h3;by_cases e:i=j
          ·subst e;rw [ho] at h1;injection h1 with h1;subst h1;rw [hd] at h2;injection h2 with h2;exact absurd h2.symm e0
          ·rw [if_neg e] at h3;exact ⟨i,p,h1,h2,h3⟩
     have fG:iC (fun i=>(L.setIfInBounds j true).getD i false) 0 us s.O=aX (iC (fun i=>L.getD i false) 0 us s.O) u:=by
      refine pE us 0 j u s.O k2 (by rw [Nat.zero_add];exact oZ) (by rw [Nat.zero_add,hget];simp) (fun x hx=>by rw [hget,if_neg (by omega)]) (fun x u' hx hu' hl i hi hi'=>?_);rw [Nat.zero_add] at hl;rw [after x u' i hx hu' hi' (by simp [hi])] at hl;cases hl
     have hc2:=count_set (L:=L) (i:=j) (by omega) hlj;refine ih (L.setIfInBounds j true) κ' φ' w' a' (by simpa using hL) (by omega) (fun i o' ho' hi e' he' hb'=>?_) ?_ (hR.trans g2) ?_
     ·rw [hget] at hi ⊢;by_cases ej:e'.on=j
      ·rw [if_pos ej]
      ·rw [if_neg ej];by_cases ei:i=j
       ·subst ei;rw [ho] at ho';injection ho' with ho';subst ho';exact iK e' he' hb'
       ·rw [if_neg ei] at hi;exact hcl i o' ho' hi e' he' hb'
     ·rw [←hset,fG];exact g1
     ·rw [fG];exact hK.trans (g3.m m)
 have e0:∀i,(Array.replicate ops.size false).getD i false=false:=fun i=>by
  by_cases hi:i < ops.size<;>simp [Array.getD,hi]
 have m0:iC (fun i=>(Array.replicate ops.size false).getD i false) 0 us s.O=s.O:=qw us 0 s.O (fun j _=>e0 _)
 have r0:bU ops s.R (bg t') (Array.replicate ops.size false)=s.R:=by
  funext d;unfold bU;rw [if_neg]
  rintro ⟨i,o,_,_,h3⟩
  rw [e0] at h3;cases h3
 refine main ops.size (Array.replicate ops.size false) κ φ w a (by simp) (by simp [List.countP_replicate]) (fun j o _ hj=>by rw [e0] at hj;cases hj) ?_ (Fr.refl _ _) ?_
 ·rw [m0,r0];exact F0
 ·rw [m0];exact nP.refl _ _ _
def QD (ob:T av) (ops:Array Oper) (n step:Nat):Nat→Nat→Nat
 | 0,z=>z
 | f+1,z=>bif ops.toList.all fun o=>KQ ob (bI n z o) then z else QD ob ops n step f (z+step)
def lK (cf:dX) (ov:Ov) (ops:Array Oper) (draw:Bool) (ac:Acc):Option Acc:=
 bif dF ac.st.n ops then
  bif draw then
   bif iP ops then
    match xZ cf ops ov ac.st.objs.get ops.toList ac.st.regs [] [] with
    | some (t,cs,es)=>some { st:={ ac.st with regs:=t },cs:=ac.cs++cs,es:=ac.es++es }
    | none=>match yh cf ops ov ac.st.n (QD ac.st.objs ops ac.st.n (32*(ac.st.n+1)) 400 64) ops.toList ac.st.regs ac.st.objs [] [] [] with
      | some (t,ob,cs,es,rs)=>bif pF rs (zx ops.toList []) then some { st:={ ac.st with regs:=t,objs:=ob },cs:=ac.cs++cs,es:=ac.es++es } else none
      | none=>none
   else none
  else oW cf ops ov ops.toList ac
 else none
def drive (cf:dX) (ov:Ov):Nat→Nat→List It→Acc→Option (List It×Acc)
 | 0,_,_,_=>none
 | n+1,l,k,ac=>
   match k with
   | []=>some ([],ac)
   | .blk _::k=>drive cf ov n l k ac
   | .scp _::k=>drive cf ov n l k ac
   | .lp b::k=>match l with
     | 0=>some (.code b :: .lp b::k,ac)
     | l+1=>drive cf ov n l (.code b :: .lp b::k) ac
   | .code c::k=>match c with
     | .skip=>drive cf ov n l k ac
     | .seq x y=>drive cf ov n l (.code x :: .code y::k) ac
     | .region _ ops draw=>match lK cf ov ops draw ac with
       | some jA=>drive cf ov n l k jA
       | none=>none
     | .cond c x y=>match aN (bg ac.st.regs) c with
       | .d (.bool t)=>match t with
         | true=>drive cf ov n l (.code x::k) ac
         | false=>drive cf ov n l (.code y::k) ac
       | _=>none
     | .block id b=>drive cf ov n l (.code b :: .blk id::k) ac
     | .loop b=>match l with
       | 0=>some (.code b :: .lp b::k,ac)
       | l+1=>drive cf ov n l (.code b :: .lp b::k) ac
     | .exit id=>match lD id k with
       | some k'=>drive cf ov n l k' ac
       | none=>none
     | .ret=>some ([],ac)
     | .label _=>drive cf ov n l k ac
     | .scope b=>drive cf ov n l (.code b :: .scp b::k) ac
     | _=>none
theorem ru {cf:dX} {ov:Ov} {ops:Array Oper} {draw:Bool} {ac jA : Acc} (h:lK cf ov ops draw ac=some jA) :
 (∀c∈ac.cs,c∈jA.cs)∧(∀e∈ac.es,e∈jA.es)∧jA.st.m=ac.st.m∧jA.st.n=ac.st.n:=by
 unfold lK at h;cases hg:dF ac.st.n ops with
 | false=>rw [hg] at h;simp at h
 | true=>
   rw [hg] at h;simp only [cond_true] at h;cases draw with
   | false=>simp only [cond_false] at h;exact uU _ h
   | true=>
     simp only [cond_true] at h;cases hq:iP ops with
     | false=>rw [hq] at h;simp at h
     | true=>
       rw [hq] at h;simp only [cond_true] at h;split at h
       ·injection h with h;subst h;exact ⟨fun c hc=>by simp [hc],fun e he=>by simp [he],rfl,rfl⟩
       ·split at h
        ·rename_i t ob cs es rs hr;cases hw:pF rs (zx ops.toList []) with
         | false=>rw [hw] at h;simp at h
         | true=>
           rw [hw] at h;simp only [cond_true] at h;injection h with h;subst h;exact ⟨fun c hc=>by simp [hc],fun e he=>by simp [he],rfl,rfl⟩
        ·simp at h
theorem zy {cf:dX} (hcf:jE P cf) (fG:P.follows .mixedOrders=true) {ov:Ov} {ops:Array Oper} {draw:Bool} {ac jA : Acc} (h:lK cf ov ops draw ac=some jA)
 (hc:∀c∈jA.cs,c=true) (he:∀e∈jA.es,jF e.1 e.2) {id:Nat} {k:List It} {m:Nat} {Q:cu→Prop} (hk:WK P m k jA.st.den Q):WK P m (.code (.region id ops draw)::k) ac.st.den Q:=by
 unfold lK at h;cases hg:dF ac.st.n ops with
 | false=>rw [hg] at h;simp at h
 | true=>
   rw [hg] at h;simp only [cond_true] at h;cases draw with
   | false=>
     simp only [cond_false] at h;refine WK.region (s':=jA.st.den) (fun κ φ w a F=>?_) hk
     have:=Ab (Q:=fun e a' w'=>e = .normal∧∃κ' φ',aA κ' φ' w' jA.st.den a'∧Fr κ w κ' w'∧nP m φ ac.st.den.O φ' jA.st.den.O) hcf ops.toList 0 F h hc he hg (fun i o hi=>by simpa using hi)
      (fun a' w' κ' φ' g1 g2 g3=>⟨rfl,κ',φ',g1,g2,g3.m m⟩)
     rw [List.range_eq_range'];simpa using this
   | true=>
     simp only [cond_true] at h;cases hq:iP ops with
     | false=>rw [hq] at h;simp at h
     | true=>
       rw [hq] at h;simp only [cond_true] at h;cases hr:xZ cf ops ov ac.st.objs.get ops.toList ac.st.regs [] [] with
       | none=>
         rw [hr] at h;simp only at h;split at h
         ·rename_i t ob cs es rs hr2;cases hw:pF rs (zx ops.toList []) with
          | false=>rw [hw] at h;simp at h
          | true=>
            rw [hw] at h;simp only [cond_true] at h;injection h with h;subst h;refine WK.tq (s':={ ac.st.den with R:=bg t,O:=ob.get }) fG (fun κ φ w a F=>?_) hk;exact OH (s:=ac.st.den) (t:=ac.st.regs) (ob:=ac.st.objs) hcf hq hg rfl rfl hr2 hw (fun c hcc=>hc c (by simp [hcc])) (fun e hee=>he e (by simp [hee])) F
         ·simp at h
       | some p=>
         obtain ⟨t,cs,es⟩:=p;rw [hr] at h;simp only [Option.some.injEq] at h;subst h;refine WK.tq (s':={ ac.st.den with R:=bg t }) fG (fun κ φ w a F=>?_) hk;have key:=Jh (κ0:=κ) (w0:=w) (φ0:=φ) (m:=m) hcf (s:=ac.st.den) (t:=ac.st.regs) hq hg rfl hr (fun c hcc=>hc c (by simp [hcc])) (fun e hee=>he e (by simp [hee]))
         refine key ops.size (Array.replicate ops.size false) κ φ w a (by simp) (by simp [List.countP_replicate]) (fun j o hj hl=>by
          exfalso;by_cases hi:j < ops.size<;>simp [Array.getD,hi] at hl) ?_ (Fr.refl _ _) (nP.refl _ _ _)
         have:bU ops ac.st.den.R (bg t) (Array.replicate ops.size false)=ac.st.den.R:=by
          funext d;unfold bU;rw [if_neg]
          rintro ⟨i,o,_,_,h3⟩
          by_cases hi:i < ops.size<;>simp [Array.getD,hi] at h3
         rw [this];exact F
theorem gN {cf:dX} {ov:Ov}:∀(n l:Nat) (k k' : List It) (ac jA : Acc),drive cf ov n l k ac=some (k',jA)→(∀c∈ac.cs,c∈jA.cs)∧(∀e∈ac.es,e∈jA.es)
 | 0,_,_,_,_,_,h=>by simp [drive] at h
 | n+1,l,k,k',ac,jA,h=>by
   have base:∀{k k' : List It} {a a' : Acc},some (k,a)=some (k',a')→(∀c∈a.cs,c∈a'.cs)∧(∀e∈a.es,e∈a'.es):=by
    intro k k' a a' h;injection h with h;injection h with h1 h2;subst h2;exact ⟨fun _ h=>h,fun _ h=>h⟩
   unfold drive at h;split at h
   ·exact base h
   ·exact gN n l _ _ _ _ h
   ·exact gN n l _ _ _ _ h
   ·split at h
    ·exact base h
    ·exact gN n _ _ _ _ _ h
   ·split at h
    ·exact gN n l _ _ _ _ h
    ·exact gN n l _ _ _ _ h
    ·split at h
     ·rename_i a1 hs;obtain ⟨p1,p2,_⟩:=ru hs;obtain ⟨q1,q2⟩:=gN n l _ _ _ _ h;exact ⟨fun c hc=>q1 c (p1 c hc),fun e he=>q2 e (p2 e he)⟩
     ·simp at h
    ·split at h
     ·split at h<;>exact gN n l _ _ _ _ h
     ·simp at h
    ·exact gN n l _ _ _ _ h
    ·split at h
     ·exact base h
     ·exact gN n _ _ _ _ _ h
    ·split at h
     ·exact gN n l _ _ _ _ h
     ·simp at h
    ·exact base h
    ·exact gN n l _ _ _ _ h
    ·exact gN n l _ _ _ _ h
    ·simp at h
theorem fH {cf:dX} (hcf:jE P cf) (fG:P.follows .mixedOrders=true) {ov:Ov} {m:Nat} {Q:cu→Prop}:∀(n l:Nat) (k k' : List It) (ac jA : Acc),drive cf ov n l k ac=some (k',jA)→
 (∀c∈jA.cs,c=true)→(∀e∈jA.es,jF e.1 e.2)→(k'=[]→Q jA.st.den)→(k'≠[]→WK P m k' jA.st.den Q)→WK P m k ac.st.den Q
 | 0,_,_,_,_,_,h,_,_,_,_=>by simp [drive] at h
 | n+1,l,k,k',ac,jA,h,hc,he,h1,h2=>by
   unfold drive at h;split at h
   ·injection h with h;injection h with e1 e2;subst e1;subst e2;exact WK.done (h1 rfl)
   ·exact WK.blk (fH hcf fG n l _ _ _ _ h hc he h1 h2)
   ·exact WK.scp (fH hcf fG n l _ _ _ _ h hc he h1 h2)
   ·split at h
    ·injection h with h;injection h with e1 e2;subst e1;subst e2;exact WK.again (h2 (by simp))
    ·exact WK.again (fH hcf fG n _ _ _ _ _ h hc he h1 h2)
   ·split at h
    ·exact WK.skip (fH hcf fG n l _ _ _ _ h hc he h1 h2)
    ·exact WK.seq (fH hcf fG n l _ _ _ _ h hc he h1 h2)
    ·split at h
     ·rename_i a1 hs;obtain ⟨q1,q2⟩:=gN n l _ _ _ _ h;exact zy hcf fG hs (fun c hcc=>hc c (q1 c hcc)) (fun e hee=>he e (q2 e hee)) (fH hcf fG n l _ _ _ _ h hc he h1 h2)
     ·simp at h
    ·split at h
     ·rename_i t hcond;cases t with
      | true=>exact WK.cond (t:=true) hcond (fH hcf fG n l _ _ _ _ h hc he h1 h2)
      | false=>exact WK.cond (t:=false) hcond (fH hcf fG n l _ _ _ _ h hc he h1 h2)
     ·simp at h
    ·exact WK.block (fH hcf fG n l _ _ _ _ h hc he h1 h2)
    ·split at h
     ·injection h with h;injection h with e1 e2;subst e1;subst e2;exact WK.enter (h2 (by simp))
     ·exact WK.enter (fH hcf fG n _ _ _ _ _ h hc he h1 h2)
    ·split at h
     ·rename_i k1 hex;exact WK.exit hex (fH hcf fG n l _ _ _ _ h hc he h1 h2)
     ·simp at h
    ·injection h with h;injection h with e1 e2;subst e1;subst e2;exact WK.ret (h1 rfl)
    ·exact WK.label (fH hcf fG n l _ _ _ _ h hc he h1 h2)
    ·exact WK.scope (fH hcf fG n l _ _ _ _ h hc he h1 h2)
    ·simp at h
theorem aA.Ru {κ:bE} {φ:bP} {w:World} {s:cu} {a:Act} (F:aA κ φ w s a) {t sl ty sz sz' : Nat} (ht:s.R t = .d (.aC sz' [] true)) (hs:s.O sl=none) :
 aA κ (iG φ sl .nil) w { s with R:=jh s.R t (.own sl sz),O:=bF s.O sl (some (.arr ty sz [])) } a∧Kp φ s.O (iG φ sl .nil) (bF s.O sl (some (.arr ty sz []))):=by
 have hun:φ sl = .un:=by have:=F.objs sl;rw [hs] at this;exact this
 obtain ⟨q1,q2,_⟩:=F.wG (i:=sl) (p:=.arr ty sz []) (κ':=κ) (φ':=iG φ sl .nil) (w':=w) (Nat.le_refl _) (fun _ h=>h) (fun _ _ _ _ h=>h) (fun _ _ h=>h) (fun _ _ _ _=>rfl)
  (fun j hj=>lY _ _ hj) (fun h=>absurd hun h) (fun _ c _ fz hc=>⟨c,fz,hc,rfl⟩) (fun h=>absurd hun h) F.bnd.lt (fun M=>.inl ⟨aS _ _ _,rfl⟩)
 refine ⟨⟨fun x=>?_,q1.objs,q1.bnd,q1.n,q1.df⟩,q2.kp⟩;by_cases e:x=t
 ·subst e;simp only [jh,if_true];have r:=F.regs x;rw [ht] at r;generalize a.tmps.getD x undef=v at r;cases r with
  | d hr=>
    cases hr with
    | iU hf=>have:=(hf rfl).1;subst this;exact .gL (aS _ _ _)
    | aC _ _ hf hc _ _ _=>have:=(hf rfl).1;simp only [List.length_nil] at this;subst this;exact .gL (aS _ _ _)
 ·simp only [jh,if_neg e];exact q1.regs x
def jG (olds mq:List Nat) (i:Nat):Option Nat:=
 match idx i olds 0 with
 | some k=>mq[k]?
 | none=>none
theorem rX {olds mq:List Nat} {i j:Nat} (h:jG olds mq i=some j):∃k:Nat,olds[k]? = some i∧mq[k]? = some j:=by
 unfold jG at h;cases e:idx i olds 0 with
 | none=>rw [e] at h;simp at h
 | some k=>rw [e] at h;exact ⟨k,by have:=(kE i olds 0 k e).2;simpa using this,h⟩
theorem tK {olds mq:List Nat} (hn:nodupB olds=true) {i j k:Nat} (h1:olds[k]? = some i) (h2:mq[k]? = some j):jG olds mq i=some j:=by
 unfold jG;obtain ⟨k',hk'⟩:=jY i olds 0 (List.mem_iff_getElem?.2 ⟨k,h1⟩)
 have:=(kE i olds 0 k' hk').2
 simp only [Nat.sub_zero] at this;rw [hk',jw olds hn k' k i this h1];exact h2
theorem Cc {ρ:Nat→Option Nat} {p q:av} (h:p.ren ρ=some q):av.dB (some q)=av.dB (some p):=by
 cases p<;>simp only [av.ren] at h<;>try (injection h with h;subst h;rfl)
 ·split at h
  ·injection h with h;subst h;rfl
  ·simp at h
 ·split at h
  ·rename_i hm;injection h with h;subst h;simp only [av.dB,(dW _ _ _ hm).1]
  ·simp at h
 ·split at h
  ·injection h with h;subst h;rfl
  ·simp at h
theorem aA.keep {κ:bE} {φ:bP} {w:World} {s s' : cu} {a:Act} (F:aA κ φ w s a) {olds mq:List Nat} (hl:mq.length=olds.length) (h1:nodupB olds=true) (h2:nodupB mq=true)
 (hn:s'.n=s.n) (hdf:s.df=[]) (Ze : s'.df=[]) (hR:∀t,s'.R t = .bot∨RV.ren (jG olds mq) 6 (s.R t)=some (s'.R t))
 (hO:∀(k i j:Nat),olds[k]? = some i→mq[k]? = some j→∃p q,s.O i=some p∧p.ren (jG olds mq)=some q∧s'.O j=some q) (hO' : ∀j,j∉mq→s'.O j=none) :
 ∃κ' φ',aA κ' φ' w s' a∧Fr κ w κ' w∧∀(m:Nat),(∀i,i < m→jG olds mq i=some i)→nP m φ s.O φ' s'.O:=by
 let κ' : bE:=fun b=>match κ b with
  | .dN=>.dN
  | .own i=>match jG olds mq i with | some j=>.own j | none=>.kQ
  | .kQ=>.kQ
 let φ' : bP:=fun j=>match jG mq olds j with | some i=>φ i | none=>.un
 have inv:∀i j,jG olds mq i=some j→jG mq olds j=some i:=fun i j h=>by
  obtain ⟨k,e1,e2⟩:=rX h;exact tK h2 e2 e1
 have iV:∀b,κ b = .dN→κ' b = .dN:=fun b hb=>by simp only [κ',hb]
 have hφ:∀i j,jG olds mq i=some j→φ i≠.un→φ' j=φ i:=fun i j h _=>by simp only [φ',inv i j h]
 have hlen:∀i j n,jG olds mq i=some j→φ i≠.un→av.dB (s'.O j)=some n→av.dB (s.O i)=some n:=by
  intro i j n h _ hn;obtain ⟨k,e1,e2⟩:=rX h;obtain ⟨p,q,g1,g2,g3⟩:=hO k i j e1 e2;rw [g1,←Cc g2,←g3];exact hn
 refine ⟨κ',φ',⟨fun t=>?_,fun j=>?_,F.bnd.same (fun b e=>by simp only [κ',e]) (fun b e=>by simp only [κ',e]),by rw [hn];exact F.n,by have h0:=F.df;rw [hdf] at h0;rw [Ze,h0.nil];trivial⟩,
  ⟨Nat.le_refl _,fun b hb=>⟨iV b hb,rfl⟩,fun b _ hb=>⟨by simp only [κ',hb],rfl⟩,fun _ c _ fz hc=>⟨c,fz,hc,rfl⟩,rfl,rfl⟩,fun m hm=>⟨fun i hi hu=>hφ i i (hm i hi) hu,fun i n hi hu hn=>hlen i i n (hm i hi) hu hn⟩⟩
 ·rcases hR t with e | e
  ·rw [e];exact .bot _
  ·exact bJ.ren iV hφ hlen 6 _ _ _ e (F.regs t)
 ·by_cases hj:j∈mq
  ·obtain ⟨k,hk⟩:=List.mem_iff_getElem?.1 hj;have hlt:=(List.getElem?_eq_some_iff.1 hk).1;have hlt2:k < olds.length:=by omega
   have hi:olds[k]? = some olds[k]:=by simp [hlt2]
   obtain ⟨p,q,g1,g2,g3⟩:=hO k _ j hi hk;rw [g3];have ho:=F.objs olds[k];rw [g1] at ho;exact OR.ren iV hφ hlen (tK h1 hi hk) (fun b hb=>by simp only [κ',hb,tK h1 hi hk]) g2 ho
  ·rw [hO' j hj]
   show φ' j = .un
   simp only [φ'];cases e:jG mq olds j with
   | none=>rfl
   | some i=>
     obtain ⟨k,e1,_⟩:=rX e;exact absurd (List.mem_iff_getElem?.2 ⟨k,e1⟩) hj
structure Post where
 oI:List (Nat×Nat×Nat×Nat):=[]
 live:List Nat
 olds:List Nat:=[]
 mq:List Nat:=[]
def pG:List (Nat×Nat×Nat×Nat)→jN→Option jN
 | [],st=>some st
 | (t,sl,ty,sz)::r,st=>match bg st.regs t,st.objs.get sl with
   | .d (.aC _ [] true),none=>bif Nat.ble t 8000&&Nat.ble sl 65000 then pG r { st with regs:=st.regs.set t (some (.own sl sz)),objs:=st.objs.set sl (some (.arr ty sz [])) } else none
   | _,_=>none
def tL {α:Type}:List Nat→List α→List (Nat×α)
 | i::r,x::q=>(i,x)::tL r q
 | _,_=>[]
def Ce (p:Post) (st:jN):Option jN:=
 let olds:=List.range st.m++p.olds
 let mq:=List.range st.m++p.mq
 bif Nat.beq mq.length olds.length&&nodupB olds&&nodupB mq&&nodupB p.live&&(p.live.all fun t=>Nat.ble t 8000)&&(mq.all fun t=>Nat.ble t 65000) then
  match eG (fun t=>RV.ren (jG olds mq) 6 (bg st.regs t)) p.live,eG (fun i=>match st.objs.get i with | some q=>q.ren (jG olds mq) | none=>none) olds with
  | some rs,some os=>some { st with regs:=T.mk (tL p.live rs),objs:=T.mk (tL mq os) }
  | _,_=>none
 else none
def yj (p:Post) (st:jN):Option jN:=
 match pG p.oI st with
 | some st'=>Ce p st'
 | none=>none
theorem FT {α:Type}:∀(l:List Nat) (v:List α),v.length=l.length→nodupB l=true→(l.all fun t=>Nat.ble t 65000)=true→
 (∀(k i:Nat),l[k]? = some i→(T.mk (tL l v)).get i=v[k]?)∧(∀i,i∉l→(T.mk (tL l v)).get i=none)
 | [],v,hl,_,_=>by
   have:v=[]:=List.eq_nil_of_length_eq_zero (by simpa using hl)
   subst this;exact ⟨by simp,fun i _=>rfl⟩
 | i0::l,[],hl,_,_=>by simp at hl
 | i0::l,x::v,hl,hn,hb=>by
   simp only [nodupB,Bool.and_eq_true,Bool.not_eq_true'] at hn;simp only [List.all_cons,Bool.and_eq_true] at hb;obtain ⟨h1,h2⟩:=FT l v (by simpa using hl) hn.2 hb.2;have hlt:=Nat.le_of_ble_eq_true hb.1
   have hni:i0∉l:=fun hm=>by
    have:=List.any_eq_false.1 hn.1 i0 hm
    rw [vK rfl] at this;simp at this
   refine ⟨fun k i hk=>?_,fun i hi=>?_⟩
   ·cases k with
    | zero=>simp at hk;subst hk;simp only [tL,T.mk];rw [T.get_set_same _ (by omega)];rfl
    | succ k=>
      simp only [List.getElem?_cons_succ] at hk;have hne:i≠i0:=fun e=>by subst e;exact hni (List.mem_iff_getElem?.2 ⟨k,hk⟩)
      simp only [tL,T.mk];rw [T.dA _ hne,h1 k i hk];rfl
   ·simp only [List.mem_cons,not_or] at hi;simp only [tL,T.mk];rw [T.dA _ hi.1,h2 i hi.2]
theorem Af:∀(l:List (Nat×Nat×Nat×Nat)) {st st' : jN},pG l st=some st'→(∀κ φ w a,aA κ φ w st.den a→∃φ',aA κ φ' w st'.den a∧Kp φ st.den.O φ' st'.den.O)∧st'.m=st.m∧st'.n=st.n
 | [],st,st',h=>by simp [pG] at h;subst h;exact ⟨fun κ φ w a F=>⟨φ,F,Kp.refl _ _⟩,rfl,rfl⟩
 | (t,sl,ty,sz)::r,st,st',h=>by
   simp only [pG] at h;split at h
   ·rename_i sz' hr ho;cases hb:(Nat.ble t 8000&&Nat.ble sl 65000) with
    | false=>rw [hb] at h;simp at h
    | true=>
      rw [hb] at h;simp only [cond_true] at h;simp only [Bool.and_eq_true] at hb;have b1:=Nat.le_of_ble_eq_true hb.1;have b2:=Nat.le_of_ble_eq_true hb.2;obtain ⟨h1,h2,h3⟩:=Af r h;refine ⟨fun κ φ w a F=>?_,h2,h3⟩;obtain ⟨g1,g2⟩:=aA.Ru (s:=st.den) F (t:=t) (sl:=sl) (ty:=ty) (sz:=sz) hr ho
      have e:({ st with regs:=st.regs.set t (some (.own sl sz)),objs:=st.objs.set sl (some (.arr ty sz [])) }:jN).den = { st.den with R:=jh st.den.R t (.own sl sz),O:=bF st.den.O sl (some (.arr ty sz [])) }:=by
       simp only [jN.den];rw [jy (by omega)];congr 1;funext j;by_cases e:j=sl
       ·subst e;rw [T.get_set_same _ (by omega),bN]
       ·rw [T.dA _ e,dP _ _ e]
      rw [←e] at g1;obtain ⟨φ',g3,g4⟩:=h1 κ _ w a g1;rw [e] at g4;exact ⟨φ',g3,g2.trans g4⟩
   ·simp at h
theorem Jj {p:Post} {st st' : jN} (h:yj p st=some st') {k:List It} {Q:cu→Prop} (hk:WK P st.m k st'.den Q):WK P st.m k st.den Q:=by
 unfold yj at h;cases h1:pG p.oI st with
 | none=>rw [h1] at h;simp at h
 | some s1=>
   rw [h1] at h;simp only at h;obtain ⟨n1,n2,n3⟩:=Af _ h1;unfold Ce at h;simp only at h;generalize ho:List.range s1.m++p.olds=olds at h;generalize hw:List.range s1.m++p.mq=mq at h;cases hg:(Nat.beq mq.length olds.length&&nodupB olds&&nodupB mq&&nodupB p.live&&(p.live.all fun t=>Nat.ble t 8000)&&(mq.all fun t=>Nat.ble t 65000)) with
   | false=>rw [hg] at h;simp at h
   | true=>
     rw [hg] at h;simp only [cond_true] at h;simp only [Bool.and_eq_true] at hg;obtain ⟨⟨⟨⟨⟨g1,g2⟩,g3⟩,g4⟩,g5⟩,g6⟩:=hg;have g1:=cB g1;cases hr:eG (fun t=>RV.ren (jG olds mq) 6 (bg s1.regs t)) p.live with
     | none=>rw [hr] at h;simp at h
     | some rs=>
       cases hos:eG (fun i=>match s1.objs.get i with | some q=>q.ren (jG olds mq) | none=>none) olds with
       | none=>rw [hr,hos] at h;simp at h
       | some os=>
         rw [hr,hos] at h;simp only [Option.some.injEq] at h;subst h;obtain ⟨r1,r2⟩:=dW _ _ _ hr;obtain ⟨o1,o2⟩:=dW _ _ _ hos
         have g5' : (p.live.all fun t=>Nat.ble t 65000)=true:=by
          rw [List.all_eq_true] at g5 ⊢;intro t ht
          have:=Nat.le_of_ble_eq_true (g5 t ht)
          exact Nat.ble_eq_true_of_le (by omega)
         obtain ⟨q1,q2⟩:=FT p.live rs r1 g4 g5';obtain ⟨q3,q4⟩:=FT mq os (by omega) g3 g6;refine hk.state fun κ φ w a F=>?_;obtain ⟨φ1,F1,K1⟩:=n1 κ φ w a F
         obtain ⟨κ2,φ2,F2,R2,K2⟩:=F1.keep (s':=({ s1 with regs:=T.mk (tL p.live rs),objs:=T.mk (tL mq os) }:jN).den) g1 g2 g3 rfl rfl rfl (fun t=>by
          by_cases ht:t∈p.live
          ·right;obtain ⟨k,hk⟩:=List.mem_iff_getElem?.1 ht;have hlt:=(List.getElem?_eq_some_iff.1 hk).1;have hlt2:k < rs.length:=by omega
           have hrs:rs[k]? = some rs[k]:=by simp [hlt2]
           have e:bg (T.mk (tL p.live rs)) t=rs[k]:=by unfold bg;rw [q1 k t hk,hrs]
           show RV.ren (jG olds mq) 6 (bg s1.regs t)=some (bg (T.mk (tL p.live rs)) t)
           rw [e];exact r2 k t _ hk hrs
          ·left
           show bg (T.mk (tL p.live rs)) t = .bot
           unfold bg;rw [q2 t ht]) (fun k i j hi hj=>by
          have hlt:=(List.getElem?_eq_some_iff.1 hi).1;have hlt2:k < os.length:=by omega
          have hq:os[k]? = some os[k]:=by simp [hlt2]
          have:=o2 k i _ hi hq
          cases e:s1.objs.get i with
          | none=>simp only [e] at this;cases this
          | some pp=>simp only [e] at this;exact ⟨pp,_,e,this,by show (T.mk (tL mq os)).get j=_;rw [q3 k j hj,hq]⟩) (fun j hj=>q4 j hj)
         refine ⟨κ2,φ2,F2,R2,(K1.m st.m).trans (K2 st.m fun i hi=>?_)⟩;have hi' : i < s1.m:=by omega
         refine tK (k:=i) g2 ?_ ?_
         ·rw [←ho,List.getElem?_append_left (by simpa using hi')];simp [hi']
         ·rw [←hw,List.getElem?_append_left (by simpa using hi')];simp [hi']
def mO (E:Env) (R:Nat→RV) (O:Tab):ResultVar→Option RV
 | .tmp t=>some (R t)
 | .cell a ty=>match mF E O ty (R a) with
   | some res=>bif res.upd.isEmpty&&res.conds.isEmpty then some res.val else none
   | none=>none
def one (vs:List RV):RV:=
 match vs with
 | [v]=>v
 | _=>.bn vs
def finish (E:Env) (jL:Bool) (m:Nat) (rs:List ResultVar) (R:Nat→RV) (O:Tab):Option (RV×List av×List Bool):=
 match eG (mO E R O) rs with
 | none=>none
 | some vs=>match (bif jL then eZ O vs else some (vs,[],[])) with
   | none=>none
   | some (vs1,u,c)=>
     let r:=one vs1
     let ps:=List.range m++(reach (aX O u) 400 (r.refs 6++(List.range m).flatMap fun i=>sS (aX O u i)) []).filter (fun i=>Nat.ble m i)
     bif nodupB ps then
      match r.ren (fun i=>idx i ps 0) 6,eG (fun i=>match aX O u i with | some p=>p.ren (fun i=>idx i ps 0) | none=>none) ps with
      | some r',some os=>some (r',os,c)
      | _,_=>none
     else none
theorem Jk {κ:bE} {φ:bP} {w:World} {s:cu} {a:Act} (F:aA κ φ w s a) {x:ResultVar} {v:RV} (h:mO (Env.of P) s.R s.O x=some v) :
 ∃u,((match x with
  | .tmp t=>pure (a.tmps.getD t undef)
  | .cell b t=>do loadVar t (←asAddr (a.tmps.getD b undef))):Sem Value).run P w = .ok u w∧bJ κ φ s.O w.heap v u:=by
 cases x with
 | tmp t=>simp [mO] at h;subst h;exact ⟨_,rfl,F.regs t⟩
 | cell b t=>
   simp only [mO] at h;cases hx:mF (Env.of P) s.O t (s.R b) with
   | none=>rw [hx] at h;simp at h
   | some res=>
     rw [hx] at h;simp only at h;cases hg:(res.upd.isEmpty&&res.conds.isEmpty) with
     | false=>rw [hg] at h;simp at h
     | true=>
       rw [hg] at h;simp only [cond_true,Option.some.injEq] at h;subst h;simp only [Bool.and_eq_true,List.isEmpty_iff] at hg;obtain ⟨_,u,h1,h2⟩:=Dv F hx (by rw [hg.2];simp) (F.regs b);refine ⟨u,?_,h2⟩
       have hp:∃ad,a.tmps.getD b undef = .pointer (some ad):=by
        have r:=F.regs b;unfold mF at hx;cases hz:(Env.of P).size t with
        | none=>rw [hz] at hx;simp at hx
        | some z=>
          rw [hz] at hx;generalize a.tmps.getD b undef=v at r;cases hR:s.R b<;>rw [hR] at hx r<;>(try simp only at hx)<;>(try (simp at hx;done))<;>(cases r;exact ⟨_,rfl⟩)
       obtain ⟨ad,hp⟩:=hp
       show (do loadVar t (←asAddr (a.tmps.getD b undef)):Sem Value).run P w = .ok u w
       rw [hp] at h1 ⊢;simpa [Instr.loadAt,Instr.sureAddr,asAddr] using h1
def Jl (tmps:Array Value) (x:ResultVar):Sem Value:=
 match x with
 | .tmp t=>pure (tmps.getD t undef)
 | .cell a t=>do loadVar t (←asAddr (tmps.getD a undef))
theorem rY {κ:bE} {φ:bP} {w:World} {s:cu} {a:Act} (F:aA κ φ w s a) (g:ResultVar→Sem Value) (hg1:∀t,g (.tmp t)=pure (a.tmps.getD t undef))
 (hg2:∀b t,g (.cell b t)=(do loadVar t (←asAddr (a.tmps.getD b undef)))):∀(rs:List ResultVar) (vs:List RV),eG (mO (Env.of P) s.R s.O) rs=some vs→
 ∃us:List Value,(rs.mapM g).run P w = .ok us w∧us.length=vs.length∧∀(i:Nat) (x:RV) (v:Value),vs[i]? = some x→us[i]? = some v→bJ κ φ s.O w.heap x v
 | [],vs,h=>by simp [eG] at h;subst h;exact ⟨[],rfl,rfl,by simp⟩
 | x::rs,vs,h=>by
   simp only [eG] at h;cases h1:mO (Env.of P) s.R s.O x with
   | none=>rw [h1] at h;simp at h
   | some v=>
     cases h2:eG (mO (Env.of P) s.R s.O) rs with
     | none=>rw [h1,h2] at h;simp at h
     | some q=>
       rw [h1,h2] at h;simp at h;subst h;obtain ⟨u,e1,e2⟩:=Jk F h1
       have e1' : (g x).run P w = .ok u w:=by
        cases x with
        | tmp t=>rw [hg1];exact e1
        | cell b t=>rw [hg2];exact e1
       obtain ⟨us,g1,g2,g3⟩:=rY F g hg1 hg2 rs q h2;refine ⟨u::us,?_,by simp [g2],fun i y w' hy hw=>?_⟩
       ·simp [List.mapM_cons,e1',g1]
       ·cases i with
        | zero=>simp at hy hw;subst hy;subst hw;exact e2
        | succ i=>exact g3 i y w' (by simpa using hy) (by simpa using hw)
theorem KX {κ:bE} {φ:bP} {O:Tab} {h:Heap} {vs:List RV} {us:List Value} (hl:us.length=vs.length) (hr:∀(i:Nat) (x:RV) (v:Value),vs[i]? = some x→us[i]? = some v→bJ κ φ O h x v) :
 bJ κ φ O h (one vs) (if hh:us.toArray.size=1 then us.toArray[0] else .tuple us.toArray):=by
 cases vs with
 | nil=>
   have:us=[]:=List.eq_nil_of_length_eq_zero (by simpa using hl)
   subst this;simp only [one];exact .bn rfl (by simp)
 | cons v vs=>
   cases us with
   | nil=>simp at hl
   | cons u us=>
     cases vs with
     | nil=>
       have:us=[]:=List.eq_nil_of_length_eq_zero (by simpa using hl)
       subst this;simp only [one];exact hr 0 v u rfl rfl
     | cons v2 vs=>
       have hne:¬(u::us).toArray.size=1:=by simp at hl ⊢;intro e;subst e;simp at hl
       rw [dif_neg hne]
       show bJ κ φ O h (.bn (v::v2::vs)) _
       exact .bn (by simpa using hl) (fun i x v hx hv=>hr i x v hx (by simpa using hv))
theorem rz {f:FuncId} {fn:Func} {c:Code} {args:Array Value} {w:World} {R:Ending→World→Prop}
 (hf:P.funcs[f]? = some fn) (hb:fn.body=some c)
 (h:∀(b:Frame) (cs:List Frame),∃e a' w',(e = .normal∨e = .ret)∧(a'.defers=[]∧∃v,(results fn a'.tmps).run P w' = .ok v w'∧R (.returned v) w')∧
   Arrives P (lone (b.at { tmps:=args++Array.replicate (fn.ntmps-args.size) undef,defers:=[] } [.code c]) cs w) b [] cs e a' w'):Calls P f args w R:=by
 intro cs
 let b:Frame:={ (default:Frame) with fn:=f,kind:=.normal }
 have henter:Frame.enter P f args .normal=b.at { tmps:=args++Array.replicate (fn.ntmps-args.size) undef,defers:=[] } [.code c]:=by
  simp [Frame.enter,Frame.at,hf,hb,b]
 obtain ⟨e,a',w',he,⟨hd,v,hr,hR⟩,harr⟩:=h b cs;rw [←henter] at harr;rcases he with rfl | rfl
 ·exact ⟨.returned v,w',_,hR,Steps.trans harr (.one step_end),rfl,rfl,hd,rfl,fn,hf,hr⟩
 ·obtain ⟨todo,hs⟩:=harr;exact ⟨.returned v,w',_,hR,hs,rfl,rfl,hd,rfl,fn,hf,hr⟩
theorem OI {f:FuncId} {fn:Func} {body:Code} {args:List RV} {objs:List av} {jL:Bool} {Q:RV→List av→Prop} (hf:P.funcs[f]? = some fn) (hb:fn.body=some body) (hn:args.length≤fn.ntmps)
 (h:WK P objs.length [.code body] { n:=fn.ntmps,R:=fun t=>(args[t]?).getD .bot,O:=aV objs }
   (fun s=>s.df=[]∧∃r bS c,finish (Env.of P) jL objs.length fn.results.toList s.R s.O=some (r,bS,c)∧(∀b∈c,b=true)∧Q r bS)):C P f args objs Q:=by
 intro κ φ w vs h1 h2 h3 h4;refine rz hf hb ?_
 have F:aA κ φ w { n:=fn.ntmps,R:=fun t=>(args[t]?).getD .bot,O:=aV objs } { tmps:=vs++Array.replicate (fn.ntmps-vs.size) undef,defers:=[] }:=by
  refine ⟨fun t=>?_,h1,h2,by simp;omega,trivial⟩;by_cases ht:t < args.length
  ·have e1:args[t]? = some args[t]:=by simp [ht]
   have e2:vs[t]? = some vs[t]:=by simp [show t < vs.size by omega]
   have e3:(vs++Array.replicate (fn.ntmps-vs.size) undef).getD t undef=vs[t]:=by
    rw [Array.getD_eq_getD_getElem?,Array.getElem?_append_left (by omega),e2];rfl
   simp only [e1,Option.getD_some,e3];exact h4 t _ _ e1 e2
  ·have e1:args[t]? = none:=by simp;omega
   simp only [e1,Option.getD_none];exact .bot _
 intro b cs;obtain ⟨e,a',w',κ',φ',s',he,⟨hdf,r,bS,c,hfin,hcs,hQ⟩,F',R',K',harr⟩:=h κ φ w _ F b cs;refine ⟨e,a',w',he,⟨(by have h0:=F'.df;rw [hdf] at h0;exact h0.nil),?_⟩,harr⟩;unfold finish at hfin;cases hres:eG (mO (Env.of P) s'.R s'.O) fn.results.toList with
 | none=>rw [hres] at hfin;simp at hfin
 | some KY=>
   rw [hres] at hfin;simp only at hfin
   have hrun:∃us:List Value,(results fn a'.tmps).run P w' = .ok (if hh:us.toArray.size=1 then us.toArray[0] else .tuple us.toArray) w'∧us.length=KY.length∧
    ∀(i:Nat) (x:RV) (v:Value),KY[i]? = some x→us[i]? = some v→bJ κ' φ' s'.O w'.heap x v:=by
    have hdef:results fn a'.tmps=(do
     let vs ←fn.results.mapM (Jl a'.tmps)
     pure (if h:vs.size=1 then vs[0] else .tuple vs)):=by
     unfold results Jl;rfl
    obtain ⟨us,u1,u2,u3⟩:=rY F' (Jl a'.tmps) (fun _=>rfl) (fun _ _=>rfl) _ KY hres;refine ⟨us,?_,u2,u3⟩;rw [hdef];simp only [Sem.run_bind];rw [Array.mapM_eq_mapM_toList];simp only [Sem.run_map];rw [u1];rfl
   obtain ⟨us,hrun,u2,u3⟩:=hrun;cases hp:(bif jL then eZ s'.O KY else some (KY,[],[])) with
   | none=>rw [hp] at hfin;simp at hfin
   | some p3=>
     obtain ⟨vs1,u,cc⟩:=p3;rw [hp] at hfin;simp only at hfin;generalize hps:List.range objs.length++(reach (aX s'.O u) 400 ((one vs1).refs 6++(List.range objs.length).flatMap fun i=>sS (aX s'.O u i)) []).filter (fun i=>Nat.ble objs.length i)=ps at hfin;cases hnd:nodupB ps with
     | false=>rw [hnd] at hfin;simp at hfin
     | true=>
       rw [hnd] at hfin;simp only [cond_true] at hfin;cases hr1:(one vs1).ren (fun i=>idx i ps 0) 6 with
       | none=>rw [hr1] at hfin;simp at hfin
       | some r'=>
         cases ho1:eG (fun i=>match aX s'.O u i with | some p=>p.ren (fun i=>idx i ps 0) | none=>none) ps with
         | none=>rw [hr1,ho1] at hfin;simp at hfin
         | some os=>
           rw [hr1,ho1] at hfin;simp only [Option.some.injEq,Prod.mk.injEq] at hfin;obtain ⟨rfl,rfl,rfl⟩:=hfin
           have pre:∃κ1,aA κ1 φ' w' { s' with O:=aX s'.O u } a'∧dS κ' φ' s'.O w'.heap κ1 φ' (aX s'.O u) w'.heap∧Fr κ' w' κ1 w'∧vs1.length=KY.length∧
            ∀(i:Nat) (x:RV) (v:Value),vs1[i]? = some x→us[i]? = some v→bJ κ1 φ' (aX s'.O u) w'.heap x v:=by
            cases jL with
            | true=>
              simp only [cond_true] at hp;obtain ⟨κ1,q1,q2,q3,_,q5,q6⟩:=rQ F' (ku.refl _) hp hcs (vs:=us) u2 u3;exact ⟨κ1,q1,q2,q3,q5,q6⟩
            | false=>
              simp only [cond_false,Option.some.injEq,Prod.mk.injEq] at hp;obtain ⟨rfl,rfl,rfl⟩:=hp;exact ⟨κ',F',dS.refl _ _ _ _,Fr.refl _ _,rfl,u3⟩
           obtain ⟨κ1,F1,M1,R1,l1,hv1⟩:=pre;have hone:=KX (us:=us) (vs:=vs1) (by omega) hv1;obtain ⟨o1,o2⟩:=dW _ ps os ho1
           let κ2:bE:=fun b=>match κ1 b with
            | .dN=>.dN
            | .own i=>match idx i ps 0 with | some j=>.own j | none=>.kQ
            | .kQ=>.kQ
           let φ2:bP:=fun j=>match ps[j]? with | some i=>φ' i | none=>.un
           have oF:∀(i j:Nat),idx i ps 0=some j→ps[j]? = some i:=fun i j h=>by have:=(kE i ps 0 j h).2;simpa using this
           have oO:∀(i j:Nat),ps[j]? = some i→idx i ps 0=some j:=fun i j h=>by
            obtain ⟨k,hk⟩:=jY i ps 0 (List.mem_iff_getElem?.2 ⟨j,h⟩);rw [hk,jw ps hnd k j i (oF i k hk) h]
           have iV:∀b,κ1 b = .dN→κ2 b = .dN:=fun b hb=>by simp only [κ2,hb]
           have hφ2:∀(i j:Nat),idx i ps 0=some j→φ' i≠.un→φ2 j=φ' i:=fun i j h _=>by simp only [φ2,oF i j h]
           have vR:∀(j i:Nat),ps[j]? = some i→∃p q,aX s'.O u i=some p∧p.ren (fun i=>idx i ps 0)=some q∧os[j]? = some q:=by
            intro j i h;have hlt:=(List.getElem?_eq_some_iff.1 h).1;have hlt2:j < os.length:=by omega
            have hq:os[j]? = some os[j]:=by simp [hlt2]
            have:=o2 j i _ h hq
            cases e:aX s'.O u i with
            | none=>simp only [e] at this;cases this
            | some p=>simp only [e] at this;exact ⟨p,_,rfl,this,hq⟩
           have ni:∀(i j n:Nat),idx i ps 0=some j→φ' i≠.un→av.dB (aV os j)=some n→av.dB (aX s'.O u i)=some n:=by
            intro i j n h _ hn;obtain ⟨p,q,e1,e2,e3⟩:=vR j i (oF i j h);rw [e1,←Cc e2];simp only [aV,e3] at hn;exact hn
           have first:∀i,i < objs.length→ps[i]? = some i:=fun i hi=>by
            rw [←hps,List.getElem?_append_left (by simpa using hi)];simp [hi]
           refine ⟨_,hrun,_,r',os,κ2,φ2,rfl,hQ,bJ.ren (ρ:=fun i=>idx i ps 0) iV hφ2 ni 6 _ _ _ hr1 hone,fun j=>?_,F1.bnd.same (fun b e=>by simp only [κ2,e]) (fun b e=>by simp only [κ2,e]),?_,
            R'.trans (R1.trans ⟨Nat.le_refl _,fun b hb=>⟨iV b hb,rfl⟩,fun b _ hb=>⟨by simp only [κ2,hb],rfl⟩,fun _ c _ fz hc=>⟨c,fz,hc,rfl⟩,rfl,rfl⟩),⟨fun i hi=>?_,fun i n hi hn=>?_⟩⟩
           ·cases hj:ps[j]? with
            | none=>
              have:os[j]? = none:=by rw [List.getElem?_eq_none_iff] at hj ⊢;omega
              simp only [aV,this]
              show φ2 j = .un
              simp only [φ2,hj]
            | some i=>
              obtain ⟨p,q,e1,e2,e3⟩:=vR j i hj;simp only [aV,e3];have ho:=F1.objs i;simp only [e1] at ho;exact OR.ren (ρ:=fun i=>idx i ps 0) iV hφ2 ni (oO i j hj) (fun b hb=>by simp only [κ2,hb,oO i j hj]) e2 ho
           ·rw [o1,←hps];simp
           ·
            have hlt:i < objs.length:=by
             rcases Nat.lt_or_ge i objs.length with h | h
             ·exact h
             ·exfalso;apply hi
              have:=h1 i
              have e:aV objs i=none:=by simp only [aV];exact List.getElem?_eq_none h
              rw [e] at this;exact this
            simp only [φ2,first i hlt];exact K'.phi i hlt hi
           ·have hlt:i < objs.length:=by
             rcases Nat.lt_or_ge i objs.length with h | h
             ·exact h
             ·exfalso;apply hi
              have:=h1 i
              have e:aV objs i=none:=by simp only [aV];exact List.getElem?_eq_none h
              rw [e] at this;exact this
            have h2' : φ' i≠.un:=by rw [K'.phi i hlt hi];exact hi
            have:=ni i i n (oO i i (first i hlt)) h2' hn
            exact K'.len i n hlt hi (M1.len i n h2' this)
def T.VL {α:Type}:Nat→List α→T α
 | _,[]=>.nil
 | k,x::r=>(T.VL (k+1) r).set k (some x)
theorem T.Cg {α:Type}:∀(l:List α) (k i:Nat),k+l.length≤65000→(T.VL k l).get i=if i < k then none else l[i-k]?
 | [],k,i,_=>by simp [T.VL,T.get]
 | x::r,k,i,h=>by
   simp only [List.length_cons] at h;simp only [T.VL];by_cases e:i=k
   ·subst e;rw [T.get_set_same _ (by omega),if_neg (by omega)];simp
   ·rw [T.dA _ e,T.Cg r (k+1) i (by omega)];by_cases h1:i < k
    ·rw [if_pos (by omega),if_pos h1]
    ·rw [if_neg (by omega),if_neg h1,show i-k=(i-(k+1))+1 by omega];rfl
def bV (n:Nat) (args:List RV) (objs:List av):jN:={ n:=n,m:=objs.length,regs:=T.VL 0 args,objs:=T.VL 0 objs }
theorem aH {f:FuncId} {fn:Func} {body:Code} {args:List RV} {objs:List av} (jL:Bool) {Q:RV→List av→Prop} (hf:P.funcs[f]? = some fn) (hb:fn.body=some body)
 (hn:(Nat.ble args.length fn.ntmps&&Nat.ble args.length 60000&&Nat.ble objs.length 60)=true)
 (h:WK P objs.length [.code body] (bV fn.ntmps args objs).den
   (fun s=>s.df=[]∧∃r bS c,finish (Env.of P) jL objs.length fn.results.toList s.R s.O=some (r,bS,c)∧(∀b∈c,b=true)∧Q r bS)):C P f args objs Q:=by
 simp only [Bool.and_eq_true] at hn;have h1:=Nat.le_of_ble_eq_true hn.1.1;have h2:=Nat.le_of_ble_eq_true hn.1.2;have h3:=Nat.le_of_ble_eq_true hn.2;refine OI (jL:=jL) hf hb h1 ?_
 have e:(bV fn.ntmps args objs).den = { n:=fn.ntmps,R:=fun t=>(args[t]?).getD .bot,O:=aV objs }:=by
  simp only [bV,jN.den];congr 1
  ·funext t;unfold bg;rw [T.Cg _ _ _ (by omega)];simp only [Nat.not_lt_zero,if_false,Nat.sub_zero];cases args[t]?<;>rfl
  ·funext i;rw [T.Cg _ _ _ (by omega)];simp [aV]
 rw [←e];exact h
def stacks:Code→List It→List (List It)
 | .seq x y,k=>stacks x (.code y::k)++stacks y k
 | .cond _ x y,k=>stacks x k++stacks y k
 | .block id b,k=>stacks b (.blk id::k)
 | .loop b,k=>(.code b :: .lp b::k)::stacks b (.lp b::k)
 | .scope b,k=>stacks b (.scp b::k)
 | _,_=>[]
def aF (body:Code) (i:Nat):List It:=(stacks body []).getD i []
def Rv:List Bool→Prop
 | []=>True
 | c::r=>c=true∧Rv r
def Rw:List (RV×RV)→Prop
 | []=>True
 | (x,y)::r=>jF x y∧Rw r
theorem Rv.all:∀{l:List Bool},Rv l→∀c∈l,c=true
 | [],_,c,h=>by simp at h
 | x::r,⟨h1,h2⟩,c,h=>by
   rcases List.mem_cons.1 h with rfl | h
   ·exact h1
   ·exact Rv.all h2 c h
theorem Rw.all:∀{l:List (RV×RV)},Rw l→∀e∈l,jF e.1 e.2
 | [],_,e,h=>by simp at h
 | (x,y)::r,⟨h1,h2⟩,e,h=>by
   rcases List.mem_cons.1 h with rfl | h
   ·exact h1
   ·exact Rw.all h2 e h
theorem ah {a b:Bool} (h:a=b):jF (.d (.bool a)) (.d (.bool b)):=.of_eq (by rw [h])
def Ch (cf:dX) (n l:Nat) (ov:Ov) (p:Post) (k:List It) (st:jN):Option (List It×jN×List Bool×List (RV×RV)):=
 match drive cf ov n l k { st:=st,cs:=[],es:=[] } with
 | some (k',ac)=>match k' with
   | []=>none
   | _::_=>match yj p ac.st with
     | some st'=>some (k',st',ac.cs,ac.es)
     | none=>none
 | none=>none
def au (cf:dX) (jL:Bool) (rs:List ResultVar) (n l:Nat) (ov:Ov) (k:List It) (st:jN):Option (RV×List av×List Bool×List (RV×RV)):=
 match drive cf ov n l k { st:=st,cs:=[],es:=[] } with
 | some (k',ac)=>match k' with
   | []=>match finish cf.E jL ac.st.m rs (bg ac.st.regs) ac.st.objs.get with
     | some (r,o,c)=>some (r,o,ac.cs++c,ac.es)
     | none=>none
   | _::_=>none
 | none=>none
theorem iB {cf:dX} {ov:Ov}:∀(n l:Nat) (k k' : List It) (ac jA : Acc),drive cf ov n l k ac=some (k',jA)→jA.st.m=ac.st.m
 | 0,_,_,_,_,_,h=>by simp [drive] at h
 | n+1,l,k,k',ac,jA,h=>by
   have base:∀{k k' : List It} {a a' : Acc},some (k,a)=some (k',a')→a'.st.m=a.st.m:=by
    intro k k' a a' h;injection h with h;injection h with h1 h2;subst h2;rfl
   unfold drive at h;split at h
   ·exact base h
   ·exact iB n l _ _ _ _ h
   ·exact iB n l _ _ _ _ h
   ·split at h
    ·exact base h
    ·exact iB n _ _ _ _ _ h
   ·split at h
    ·exact iB n l _ _ _ _ h
    ·exact iB n l _ _ _ _ h
    ·split at h
     ·rename_i a1 hs
      have:=(ru hs).2.2.1
      rw [iB n l _ _ _ _ h,this]
     ·simp at h
    ·split at h
     ·split at h<;>exact iB n l _ _ _ _ h
     ·simp at h
    ·exact iB n l _ _ _ _ h
    ·split at h
     ·exact base h
     ·exact iB n _ _ _ _ _ h
    ·split at h
     ·exact iB n l _ _ _ _ h
     ·simp at h
    ·exact base h
    ·exact iB n l _ _ _ _ h
    ·exact iB n l _ _ _ _ h
    ·simp at h
structure Ok (P:Program) (cf:dX):Prop where
 cf:jE P cf
 mix:P.follows .mixedOrders=true
theorem WK.seg {cf:dX} (hok:Ok P cf) {m:Nat} {st st' : jN} {k k' : List It} {Q:cu→Prop} (n l:Nat) (ov:Ov) (p:Post) (cs:List Bool) (es:List (RV×RV)) (hm:st.m=m)
 (h:Ch cf n l ov p k st=some (k',st',cs,es)) (hc:Rv cs) (he:Rw es) (hk:WK P m k' st'.den Q):WK P m k st.den Q:=by
 subst hm;unfold Ch at h;split at h
 ·rename_i k1 ac hd;split at h
  ·simp at h
  ·rename_i x k1;cases hp:yj p ac.st with
   | none=>rw [hp] at h;simp at h
   | some s1=>
     rw [hp] at h;simp only [Option.some.injEq,Prod.mk.injEq] at h;obtain ⟨rfl,rfl,rfl,rfl⟩:=h;have hm1:=iB _ _ _ _ _ _ hd;refine fH hok.cf hok.mix n l k _ { st:=st,cs:=[],es:=[] } ac hd hc.all he.all (fun e=>by simp at e) (fun _=>?_);rw [←hm1];refine Jj hp ?_;rw [hm1];exact hk
 ·simp at h
theorem WK.fin {cf:dX} (hok:Ok P cf) {m:Nat} {st:jN} {k:List It} {rs:List ResultVar} {jL:Bool} {Q:RV→List av→Prop} (n l:Nat) (ov:Ov) {r:RV} {o:List av} (cs:List Bool) (es:List (RV×RV)) (hm:st.m=m)
 (h:au cf jL rs n l ov k st=some (r,o,cs,es)) (hc:Rv cs) (he:Rw es) (hQ:Q r o) :
 WK P m k st.den (fun s=>s.df=[]∧∃r bS c,finish (Env.of P) jL m rs s.R s.O=some (r,bS,c)∧(∀b∈c,b=true)∧Q r bS):=by
 subst hm;unfold au at h;split at h
 ·rename_i k1 ac hd;split at h
  ·rw [hok.cf.E] at h;cases hf:finish (Env.of P) jL ac.st.m rs (bg ac.st.regs) ac.st.objs.get with
   | none=>rw [hf] at h;simp at h
   | some p=>
     obtain ⟨r',o',c'⟩:=p;rw [hf] at h;simp only [Option.some.injEq,Prod.mk.injEq] at h;obtain ⟨rfl,rfl,rfl,rfl⟩:=h;have hm1:=iB _ _ _ _ _ _ hd;refine fH hok.cf hok.mix n l k _ { st:=st,cs:=[],es:=[] } ac hd (fun c hcc=>hc.all c (by simp [hcc])) he.all (fun _=>?_) (fun e=>by simp at e);rw [←hm1];exact ⟨rfl,r',o',c',hf,fun b hb=>hc.all b (by simp [hb]),hQ⟩
  ·simp at h
 ·simp at h
theorem WK.rec' {m:Nat} {k:List It} {Q:cu→Prop} {σ:Type} (S:σ→jN) (inv:σ→Prop) (μ:σ→Nat)
 (round:∀y,inv y→(∀z,inv z→μ z < μ y→WK P m k (S z).den Q)→WK P m k (S y).den Q):∀y,inv y→WK P m k (S y).den Q:=by
 have key:∀n y,μ y=n→inv y→WK P m k (S y).den Q:=by
  intro n;induction n using Nat.strongRecOn with
  | _ n ih=>exact fun y hn hy=>round y hy fun z hz hlt=>ih (μ z) (hn▸hlt) z rfl hz
 exact fun y hy=>key _ y rfl hy
def rZ:Nat→RV→List Nat
 | 0,_=>[]
 | d+1,v=>match v with
   | .ptr i _=>[i]
   | .gU i _ _ _=>[i]
   | .own i _=>[i]
   | .sub i _ _ _=>[i]
   | .sl i _ _ _ _=>[i]
   | .map i=>[i]
   | .gI _ f c=>f.flatMap (rZ d)++c.flatMap (rZ d)
   | .agg cs=>cs.flatMap (rZ d)
   | .bn vs=>vs.flatMap (rZ d)
   | _=>[]
def Rx:Option av→List Nat
 | some (.box _ cs)=>cs.flatMap (rZ 6)
 | some (.bW _ cs)=>cs.flatMap (rZ 6)
 | some (.NT m)=>[m]
 | _=>[]
def FU (O:T av):Nat→List Nat→List Nat→List Nat
 | 0,_,seen=>seen
 | _+1,[],seen=>seen
 | f+1,i::r,seen=>bif seen.any (Nat.beq i) then FU O f r seen else FU O f (r++Rx (O.get i)) (seen++[i])
def HY (oI:List (Nat×Nat×Nat×Nat)) (live:List Nat) (st:jN):Post:=
 let olds:=(FU st.objs 300 (live.flatMap fun t=>rZ 6 (bg st.regs t)) []).filter (fun i=>Nat.ble st.m i)
 { oI:=oI,live:=live,olds:=olds,mq:=(List.range olds.length).map (200 + ·) }
def bq (cf:dX) (n l:Nat) (ov:Ov) (oI:List (Nat×Nat×Nat×Nat)) (live:List Nat) (k:List It) (st:jN):Option (List It×jN×List Bool×List (RV×RV)):=
 match drive cf ov n l k { st:=st,cs:=[],es:=[] } with
 | some (k',ac)=>match k' with
   | []=>none
   | _::_=>match pG oI ac.st with
     | some s1=>match Ce (HY oI live s1) s1 with
       | some st'=>some (k',st',ac.cs,ac.es)
       | none=>none
     | none=>none
 | none=>none
theorem Ef {cf:dX} {n l:Nat} {ov:Ov} {oI:List (Nat×Nat×Nat×Nat)} {live:List Nat} {k:List It} {st:jN} {x:List It×jN×List Bool×List (RV×RV)}
 (h:bq cf n l ov oI live k st=some x):∃p,Ch cf n l ov p k st=some x:=by
 unfold bq at h;split at h
 ·rename_i k1 ac hd;split at h
  ·simp at h
  ·rename_i y k1;cases hn:pG oI ac.st with
   | none=>rw [hn] at h;simp at h
   | some s1=>
     rw [hn] at h;simp only at h;cases hk:Ce (HY oI live s1) s1 with
     | none=>rw [hk] at h;simp at h
     | some st'=>
       rw [hk] at h;refine ⟨HY oI live s1,?_⟩;unfold Ch;rw [hd];simp only [yj]
       have:(HY oI live s1).oI=oI:=rfl
       rw [this,hn];simp only [hk];exact h
 ·simp at h
theorem WK.eF {cf:dX} (hok:Ok P cf) {m:Nat} {st st' : jN} {k k' : List It} {Q:cu→Prop} (n l:Nat) (ov:Ov) (oI:List (Nat×Nat×Nat×Nat)) (live:List Nat) (cs:List Bool) (es:List (RV×RV)) (hm:st.m=m)
 (h:bq cf n l ov oI live k st=some (k',st',cs,es)) (hc:Rv cs) (he:Rw es) (hk:WK P m k' st'.den Q):WK P m k st.den Q:=
 let ⟨p,hp⟩:=Ef h
 WK.seg hok n l ov p cs es hm hp hc he hk
end Go.Am
