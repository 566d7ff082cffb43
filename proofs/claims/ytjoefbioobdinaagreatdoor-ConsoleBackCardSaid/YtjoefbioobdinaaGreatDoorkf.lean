/-
  Texts that the claim leans on: AmEff1, AmEff2, AmEff3, AmEff4, AmDrive, AmEntry, AmUse.
-/
import Derived.Test.YtjoefbioobdinaaGreatDoorke
namespace Go.Am
set_option linter.unusedSectionVars false
variable {P:Program} [Gl]
def Le (O O' : Tab):Prop:=∀i p,O i=some p→O' i=some p
theorem Le.aQ {O O' : Tab} (h:Le O O') (u:List (Nat×au)):Le (Am.aQ O u) (Am.aQ O' u):=by
 induction u generalizing O O' with
 | nil=>exact h
 | cons x r ih=>
   refine ih (fun i p hi=>?_);have hi' : bq O x.1 (some x.2) i=some p:=hi
   show bq O' x.1 (some x.2) i=some p
   by_cases e:i=x.1
   ·subst e;rw [bE] at hi' ⊢;exact hi'
   ·rw [dD _ _ e] at hi' ⊢;exact h i p hi'
theorem ow {O O' : Tab} (h:Le O O') {v:RV} {r:DV×List (Nat×au)×List Bool} (hx:gH O v=some r):gH O' v=some r:=by
 cases v with
 | own i sz=>
   cases ho:O i with
   | none=>simp [gH,ho] at hx
   | some p=>simp only [gH,ho] at hx;simp only [gH,h i p ho];exact hx
 | sub i sz off len=>
   cases ho:O i with
   | none=>simp [gH,ho] at hx
   | some p=>simp only [gH,ho] at hx;simp only [gH,h i p ho];exact hx
 | _=>exact hx
theorem sG {O O' : Tab} (h:Le O O'):∀{l:List RV} {r:List DV×List (Nat×au)×List Bool},iL O l=some r→iL O' l=some r
 | [],r,hx=>hx
 | v::l,r,hx=>by
   simp only [iL] at hx ⊢;cases h1:gH O v with
   | none=>rw [h1] at hx;simp at hx
   | some p=>
     cases h2:iL O l with
     | none=>rw [h1,h2] at hx;simp at hx
     | some q=>
       rw [h1,h2] at hx;rw [ow h h1,sG h h2];exact hx
theorem uG {O O' : Tab} (h:Le O O') {v:RV} {r:DV×List (Nat×au)×List Bool} (hx:rQ O v=some r):rQ O' v=some r:=by
 cases v with
 | agg cs=>
   simp only [rQ] at hx ⊢;cases h2:iL O cs with
   | none=>rw [h2] at hx;simp at hx
   | some q=>rw [h2] at hx;rw [sG h h2];exact hx
 | _=>simp only [rQ] at hx ⊢;exact ow h hx
theorem xH {O O' : Tab} (h:Le O O'):∀{l:List (Nat×RV)} {r:List (Nat×DV)×List (Nat×au)×List Bool},nO O l=some r→nO O' l=some r
 | [],r,hx=>hx
 | (i,v)::l,r,hx=>by
   simp only [nO] at hx ⊢;cases h1:rQ O v with
   | none=>rw [h1] at hx;simp at hx
   | some p=>
     cases h2:nO O l with
     | none=>rw [h1,h2] at hx;simp at hx
     | some q=>
       rw [h1,h2] at hx;rw [uG h h1,xH h h2];exact hx
theorem qD {O O' : Tab} (h:Le O O') {v:RV} {r:RV×List (Nat×au)×List Bool} (hx:iH O v=some r):iH O' v=some r:=by
 unfold iH at hx ⊢;cases ho:Kk v with
 | false=>rw [ho] at hx;exact hx
 | true=>
   rw [ho] at hx;simp only [cond_true] at hx ⊢;cases h1:gH O v with
   | none=>rw [h1] at hx;simp at hx
   | some p=>rw [h1] at hx;rw [ow h h1];exact hx
theorem oz {O O' : Tab} (h:Le O O'):∀{l:List RV} {r:List RV×List (Nat×au)×List Bool},fC O l=some r→fC O' l=some r
 | [],r,hx=>hx
 | v::l,r,hx=>by
   simp only [fC] at hx ⊢;cases h1:iH O v with
   | none=>rw [h1] at hx;simp at hx
   | some p=>
     cases h2:fC O l with
     | none=>rw [h1,h2] at hx;simp at hx
     | some q=>
       rw [h1,h2] at hx;rw [qD h h1,oz h h2];exact hx
theorem Du {O O' : Tab} (h:Le O O') {v:RV} {r:RV×List (Nat×au)×List Bool} (hx:lT O v=some r):lT O' v=some r:=by
 cases v with
 | agg cs=>
   simp only [lT] at hx ⊢;cases h2:fC O cs with
   | none=>rw [h2] at hx;simp at hx
   | some q=>rw [h2] at hx;rw [oz h h2];exact hx
 | _=>simp only [lT] at hx ⊢;exact qD h hx
theorem nD {O O' : Tab} (h:Le O O'):∀{l:List RV} {r:List RV×List (Nat×au)×List Bool},eD O l=some r→eD O' l=some r
 | [],r,hx=>hx
 | v::l,r,hx=>by
   simp only [eD] at hx ⊢;cases h1:lT O v with
   | none=>rw [h1] at hx;simp at hx
   | some p=>
     cases h2:eD O l with
     | none=>rw [h1,h2] at hx;simp at hx
     | some q=>
       rw [h1,h2] at hx;rw [Du h h1,nD h h2];exact hx
theorem qZ {O O' : Tab} (h:Le O O') {v:RV} {r:Nat×List DV×List Bool} (hx:kJ O v=some r):kJ O' v=some r:=by
 cases v with
 | own i sz=>
   cases ho:O i with
   | none=>simp [kJ,ho] at hx
   | some p=>simp only [kJ,ho] at hx;simp only [kJ,h i p ho];exact hx
 | sub i sz off len=>
   cases ho:O i with
   | none=>simp [kJ,ho] at hx
   | some p=>simp only [kJ,ho] at hx;simp only [kJ,h i p ho];exact hx
 | d x=>cases x<;>exact hx
 | _=>exact hx
theorem Dv {O O' : Tab} (h:Le O O') {v:RV} {r:Nat×List DV×List Bool} (hx:lN O v=some r):lN O' v=some r:=by
 cases v with
 | d x=>cases x with
   | str s=>exact hx
   | _=>simp only [lN] at hx ⊢;exact qZ h hx
 | _=>simp only [lN] at hx ⊢;exact qZ h hx
theorem Dw {E:Env} {O O' : Tab} (h:Le O O') {t:Nat} {v:RV} {r:bX} (hx:lM E O t v=some r):lM E O' t v=some r:=by
 unfold lM at hx ⊢;cases hz:E.size t with
 | none=>rw [hz] at hx;simp at hx
 | some z=>
   rw [hz] at hx;simp only at hx ⊢;cases v with
   | ptr i off=>
     simp only at hx ⊢;cases ho:O i with
     | none=>rw [ho] at hx;simp at hx
     | some p=>rw [ho] at hx;rw [h i p ho];exact hx
   | gq i sz idx off=>
     simp only at hx ⊢;cases ho:O i with
     | none=>rw [ho] at hx;simp at hx
     | some p=>rw [ho] at hx;rw [h i p ho];exact hx
   | _=>exact hx
theorem Bn {E:Env} {O O' : Tab} (h:Le O O') {t:Nat} {a v:RV} {r:bX} (hx:kY E O t a v=some r):kY E O' t a v=some r:=by
 unfold kY at hx ⊢;cases hz:E.size t with
 | none=>rw [hz] at hx;simp at hx
 | some z=>
   rw [hz] at hx;simp only at hx ⊢;cases a with
   | ptr i off=>
     simp only at hx ⊢;cases ho:O i with
     | none=>rw [ho] at hx;simp at hx
     | some p=>rw [ho] at hx;rw [h i p ho];exact hx
   | gq i sz idx off=>
     simp only at hx ⊢;cases ho:O i with
     | none=>rw [ho] at hx;simp at hx
     | some p=>
       rw [ho] at hx;rw [h i p ho];cases p with
       | arr ty sz' els=>
         simp only at hx ⊢;cases hb:Nat.beq sz' sz with
         | false=>rw [hb] at hx;simp at hx
         | true=>
           rw [hb] at hx;simp only [cond_true] at hx ⊢;cases h1:rQ O v with
           | none=>rw [h1] at hx;simp at hx
           | some q=>rw [h1] at hx;rw [uG h h1];exact hx
       | _=>exact hx
   | _=>exact hx
theorem Fb {E:Env} {O O' : Tab} (h:Le O O') {t:Nat} {v:RV} {r:bX} (hx:zl E O t v=some r):zl E O' t v=some r:=by
 unfold zl at hx ⊢;split at hx
 ·exact hx
 ·exact hx
 ·rename_i i _ hu;cases ho:O i with
  | none=>rw [ho] at hx;simp at hx
  | some p=>rw [ho] at hx;rw [h i p ho];exact hx
 ·exact hx
 ·exact hx
 ·exact hx
 ·rename_i i hu;cases ho:O i with
  | none=>rw [ho] at hx;simp at hx
  | some p=>rw [ho] at hx;rw [h i p ho];exact hx
 ·cases hx
theorem uH {E:Env} {O O' : Tab} (h:Le O O') {t:Nat} {v j:RV} {r:bX} (hx:iX E O t v j=some r):iX E O' t v j=some r:=by
 unfold iX at hx ⊢;split at hx
 ·split at hx
  ·exact hx
  ·rename_i k sz hu;cases ho:O k with
   | none=>rw [ho] at hx;simp at hx
   | some p=>rw [ho] at hx;rw [h k p ho];exact hx
  ·exact hx
  ·rename_i k off hu;cases ho:O k with
   | none=>rw [ho] at hx;simp at hx
   | some p=>rw [ho] at hx;rw [h k p ho];exact hx
  ·cases hx
 ·cases hx
theorem Bo {E:Env} {O O' : Tab} (h:Le O O') {t:Nat} {v:RV} {lo hi mx:Option RV} {r:bX} (hx:oV E O t v lo hi mx=some r):oV E O' t v lo hi mx=some r:=by
 unfold oV at hx ⊢;split at hx
 ·split at hx
  ·exact hx
  ·exact hx
  ·rename_i i sz hu;cases ho:O i with
   | none=>rw [ho] at hx;simp at hx
   | some p=>rw [ho] at hx;simp only [h i p ho];exact hx
  ·exact hx
  ·rename_i i off hu;cases ho:O i with
   | none=>rw [ho] at hx;simp at hx
   | some p=>rw [ho] at hx;simp only [h i p ho];exact hx
  ·cases hx
 ·exact hx
 ·cases hx
theorem Dx {E:Env} {O O' : Tab} (h:Le O O') {sl:Nat} (hs:O' sl=O sl) {s d:Nat} {v:RV} {r:bX} (hx:tZ E O sl s d v=some r):tZ E O' sl s d v=some r:=by
 unfold tZ at hx ⊢;rw [hs];split at hx
 ·exact hx
 ·exact hx
 ·exact hx
 ·rename_i v _ _ _ e hu1 hu2 hne;cases hb:qj (E.und e) with
  | false=>rw [hb] at hx;simp at hx
  | true=>
    rw [hb] at hx;simp only [cond_true] at hx ⊢;cases h1:kJ O v with
    | none=>rw [h1] at hx;simp at hx
    | some q=>rw [h1] at hx;rw [qZ h h1];exact hx
 ·cases hx
theorem sH {E:Env} {O O' : Tab} (h:Le O O') {sl:Nat} (hs:O' sl=O sl) {t n:Nat} {parts:List (Nat×RV)} {r:bX} (hx:iy E O sl t n parts=some r):iy E O' sl t n parts=some r:=by
 unfold iy at hx ⊢;rw [hs];split at hx
 ·rename_i e h1 h2;split at hx
  ·rename_i sz z h3 h4;cases h5:nO O parts with
   | none=>rw [h5] at hx;simp at hx
   | some q=>rw [h5] at hx;rw [xH h h5];exact hx
  ·cases hx
 ·cases hx
theorem yT {E:Env} {O O' : Tab} (h:Le O O') {sl:Nat} (hs:O' sl=O sl) (hs1:O' (sl+1)=O (sl+1)) {t:Nat} {s x:RV} {r:bX} (hx:mo E O sl t s x=some r):mo E O' sl t s x=some r:=by
 have hsl:∀i,O' (bif Nat.beq i sl then sl+1 else sl)=O (bif Nat.beq i sl then sl+1 else sl):=fun i=>by cases Nat.beq i sl<;>simp [hs,hs1]
 unfold mo at hx ⊢;split at hx
 ·rename_i e hu;split at hx
  ·rename_i z iA sx xs cx h1 h2 h3;rw [h1,h2,Dv h h3];simp only;cases hb:((Nat.beq sx z||xs.isEmpty)&&Nat.ble 1 z&&Nat.ble 1 iA&&lQ E e z) with
   | false=>rw [hb] at hx;simp at hx
   | true=>
     rw [hb] at hx;simp only [cond_true] at hx ⊢;split at hx
     ·simp only [hs];exact hx
     ·rename_i i sz
      (try simp only)
      cases hb2:Nat.beq sz z with
      | false=>rw [hb2] at hx;simp at hx
      | true=>
        rw [hb2] at hx;simp only [cond_true] at hx ⊢;cases ho:O i with
        | none=>rw [ho] at hx;simp at hx
        | some p=>rw [ho] at hx;rw [h i p ho];simp only [hsl];exact hx
     ·rename_i i sz off len
      (try simp only)
      cases hb2:(Nat.beq sz z&&Nat.beq off 0) with
      | false=>rw [hb2] at hx;simp at hx
      | true=>
        rw [hb2] at hx;simp only [cond_true] at hx ⊢;cases ho:O i with
        | none=>rw [ho] at hx;simp at hx
        | some p=>rw [ho] at hx;rw [h i p ho];simp only [hsl];exact hx
     ·cases hx
  ·cases hx
 ·cases hx
theorem vX {O O' : Tab} (h:Le O O') {fn:Fn} {fs cs:List RV} {r:bX} (hx:jA O fn fs cs=some r):jA O' fn fs cs=some r:=by
 unfold jA at hx ⊢;cases h1:eD O (fs++cs) with
 | none=>rw [h1] at hx;simp at hx
 | some q=>rw [h1] at hx;rw [nD h h1];exact hx
theorem uI (O:Tab):∀(n:Nat) (todo done:List Nat) (i:Nat),i∈done→i∈reach O n todo done
 | 0,_,done,i,h=>by simp [reach,h]
 | n+1,[],done,i,h=>by simp [reach,h]
 | n+1,x::todo,done,i,h=>by
   simp only [reach];cases (done.any fun j=>Nat.beq j x) with
   | true=>simp only [cond_true];exact uI O n todo done i h
   | false=>simp only [cond_false];exact uI O n _ _ i (by simp [h])
theorem ru {O O' : Tab} (h:Le O O'):∀(n:Nat) (todo done:List Nat),(∀i∈reach O n todo done,O i≠none)→reach O' n todo done=reach O n todo done
 | 0,_,_,_=>by simp [reach]
 | n+1,[],done,_=>by simp [reach]
 | n+1,x::todo,done,hr=>by
   simp only [reach] at hr ⊢;cases hb:(done.any fun j=>Nat.beq j x) with
   | true=>
     rw [hb] at hr;simp only [cond_true] at hr ⊢;exact ru h n todo done hr
   | false=>
     rw [hb] at hr;simp only [cond_false] at hr ⊢;have hx:=hr x (uI O n _ _ x (by simp))
     have e:O' x=O x:=by
      cases ho:O x with
      | none=>exact absurd ho hx
      | some p=>exact h x p ho
     rw [e];exact ru h n _ _ hr
theorem xI {α β:Type} {f g:α→Option β}:∀(l:List α),(∀x∈l,f x=g x)→dO f l=dO g l
 | [],_=>rfl
 | x::l,h=>by simp only [dO];rw [h x (by simp),xI l (fun y hy=>h y (by simp [hy]))]
theorem zJ {α β:Type} {f:α→Option β}:∀{l:List α} {r:List β},dO f l=some r→∀x∈l,∃y,f x=some y
 | [],_,_,x,hx=>by simp at hx
 | a::l,r,h,x,hx=>by
   simp only [dO] at h;cases h1:f a with
   | none=>rw [h1] at h;simp at h
   | some y=>
     cases h2:dO f l with
     | none=>rw [h1,h2] at h;simp at h
     | some q=>
       rcases List.mem_cons.1 hx with rfl | hx
       ·exact ⟨y,h1⟩
       ·exact zJ h2 x hx
theorem Fe {O O' : Tab}:∀(u:List (Nat×au)) (i:Nat),O' i=O i→aQ O' u i=aQ O u i:=by
 intro u;induction u generalizing O O' with
 | nil=>intro i h;exact h
 | cons x r ih=>
   intro i h;refine ih i ?_
   show bq O' x.1 (some x.2) i=bq O x.1 (some x.2) i
   by_cases e:i=x.1
   ·subst e;rw [bE,bE]
   ·rw [dD _ _ e,dD _ _ e];exact h
theorem zK:∀(qs:List Nat) (ps:List au),qs.length≤ps.length→∀i∈qs,∃p,(i,p)∈rW qs ps
 | [],_,_,i,h=>by simp at h
 | q::qs,[],hl,_,_=>by simp at hl
 | q::qs,p::ps,hl,i,h=>by
   rcases List.mem_cons.1 h with rfl | h
   ·exact ⟨p,by simp [rW]⟩
   ·obtain ⟨p',hp⟩:=zK qs ps (by simpa using hl) i h;exact ⟨p',by simp [rW,hp]⟩
theorem sI {K:tN} {cK:Bool} {O O' : Tab} (h:Le O O') {sl f:Nat} {args:List RV} {r:bX} (hx:gJ K cK O sl f args=some r) (hk:∀p∈r.upd,O' p.1=O p.1):gJ K cK O' sl f args=some r:=by
 unfold gJ at hx ⊢
 have hpre:∀q,(bif cK then some (args,[],[]) else eD O args)=some q→(bif cK then some (args,[],[]) else eD O' args)=some q:=by
  intro q hq;cases cK with
  | true=>exact hq
  | false=>exact nD h hq
 cases h1:(bif cK then some (args,[],[]) else eD O args) with
 | none=>rw [h1] at hx;simp at hx
 | some q=>
   rw [hpre q h1];rw [h1] at hx;obtain ⟨args1,u,c⟩:=q;simp only at hx ⊢;generalize hps:reach (aQ O u) 400 (args1.flatMap (RV.refs 6)) []=ps at hx;split at hx
   ·rename_i args2 objs h2 h3
    ·have hu:=h.aQ u
     have hsome:∀i∈ps,aQ O u i≠none:=fun i hi hn=>by
      obtain ⟨y,hy⟩:=zJ h3 i hi;rw [hn] at hy;simp at hy
     have YL : reach (aQ O' u) 400 (args1.flatMap (RV.refs 6)) []=ps:=by
      rw [←hps];exact ru hu _ _ _ (by rw [hps];exact hsome)
     have hag:∀i∈ps,aQ O' u i=aQ O u i:=fun i hi=>by
      cases ho:aQ O u i with
      | none=>exact absurd ho (hsome i hi)
      | some p=>exact hu i p ho
     rw [YL,h2,(xI ps (fun i hi=>by simp only [hag i hi])).trans h3];simp only;cases h4:K f args2 objs with
     | none=>rw [h4] at hx;simp at hx
     | some q4=>
       obtain ⟨r4,bJ,c2⟩:=q4;rw [h4] at hx;simp only at hx ⊢;generalize hnw:news sl (bJ.length-ps.length)=nw at hx;cases h5:(nodupB ps&&nodupB (ps++nw)&&Nat.ble ps.length bJ.length&&nw.all (fun i=>(aQ O u i).isNone)) with
       | false=>rw [h5] at hx;simp at hx
       | true=>
         rw [h5] at hx;simp only [cond_true] at hx;cases h6:dO (au.ren (fun j=>(ps++nw)[j]?)) bJ with
         | none=>rw [h6] at hx;simp at hx
         | some eX=>
           cases h7:RV.ren (fun j=>(ps++nw)[j]?) 6 r4 with
           | none=>rw [h6,h7] at hx;simp at hx
           | some r''=>
             rw [h6,h7] at hx;simp only [Option.some.injEq] at hx;subst hx;simp only [Bool.and_eq_true] at h5
             have hlen:(ps++nw).length≤eX.length:=by
              have a1:=(dJ _ bJ eX h6).1;have a2:=Nat.le_of_ble_eq_true h5.1.2;have a3:nw.length=bJ.length-ps.length:=by rw [←hnw];simp [news]
              simp only [List.length_append];omega
             have hnone:nw.all (fun i=>(aQ O' u i).isNone)=true:=by
              rw [List.all_eq_true];intro i hi;obtain ⟨p,hp⟩:=zK (ps++nw) eX hlen i (by simp [hi]);rw [Fe u i (hk (i,p) (by simp [hp]))];exact List.all_eq_true.1 h5.2 i hi
             rw [h5.1.1.1,h5.1.1.2,h5.1.2,hnone];rfl
   ·cases hx
theorem Bp {diff:Bool} {K:tN} {cK:Bool} {O O' : Tab} (h:Le O O') {sl f:Nat} {args:List RV} {r:bX} (hx:pJ diff K cK O sl f args=some r) (hk:∀p∈r.upd,O' p.1=O p.1):pJ diff K cK O' sl f args=some r:=by
 unfold pJ at hx ⊢;cases diff with
 | false=>exact sI h hx hk
 | true=>
   simp only at hx ⊢;cases hf:gJ K cK O sl f args with
   | none=>rw [hf] at hx;simp at hx
   | some r0=>
     rw [hf] at hx;simp only at hx;cases hn:nodupB (r0.upd.map (·.1)) with
     | false=>rw [hn] at hx;simp at hx
     | true=>
       rw [hn] at hx;simp only [cond_true,Option.some.injEq] at hx;subst hx
       have hall:∀p∈r0.upd,O' p.1=O p.1:=fun p hp=>by
        cases e:zH (O p.1) p.2 with
        | false=>exact hk p (List.mem_filter.2 ⟨hp,by simp [e]⟩)
        | true=>
          unfold zH at e;split at e
          ·rename_i q hq;rw [h _ _ hq,hq]
          ·cases e
       rw [sI h hf hall];simp only [hn,cond_true,Option.some.injEq]
       have:mM O' r0.upd=mM O r0.upd:=List.filter_congr fun p hp=>by rw [hall p hp]
       rw [this]
theorem Bq {O O' : Tab} (h:Le O O') {x:RV} {b:Bool} (hx:oU O x=some b):oU O' x=some b:=by
 unfold oU at hx ⊢;split at hx
 ·exact hx
 ·rename_i i sz;cases hO:O i with
  | none=>rw [hO] at hx;simp at hx
  | some p=>rw [hO] at hx;rw [h _ _ hO];exact hx
 ·exact hx
 ·cases hx
theorem Dy {E:Env} {O O' : Tab} (h:Le O O') {op:BinOp} {t:Nat} {x y:RV} {r:bX} (hx:tY E O op t x y=some r):tY E O' op t x y=some r:=by
 unfold tY at hx ⊢;split at hx
 ·unfold wN at hx ⊢;split at hx
  ·rename_i e b hu hb;rw [hu,Bq h hb];exact hx
  ·cases hx
 ·exact hx
theorem Dz {O O' : Tab} (h:Le O O') {x:RV} {es:List (DV×DV)} (hx:rowsOf O x=some es):rowsOf O' x=some es:=by
 unfold rowsOf at hx ⊢;split at hx
 ·exact hx
 ·rename_i i;cases hO:O i with
  | none=>rw [hO] at hx;simp at hx
  | some p=>rw [hO] at hx;rw [h i p hO];exact hx
 ·cases hx
theorem yU {E:Env} {O O' : Tab} (h:Le O O') {t:Nat} {x k:RV} {ok:Bool} {r:bX} (hx:mG E O t x k ok=some r):mG E O' t x k ok=some r:=by
 unfold mG at hx ⊢;split at hx
 ·rename_i kt et es kd hu hr;rw [hu,Dz h hr];exact hx
 ·cases hx
theorem uJ {E:Env} {O O' : Tab} (h:Le O O') {t:Nat} {m k y:RV} {r:bX} (hx:gu E O t m k y=some r):gu E O' t m k y=some r:=by
 unfold gu at hx ⊢;split at hx
 ·rename_i kt et i kd hu;split at hx
  ·rename_i yd u c es h1 h2;rw [uG h h1,h _ _ h2];exact hx
  ·cases hx
 ·cases hx
theorem yV {E:Env} {O O' : Tab} (h:Le O O') {t:Nat} {m k:RV} {r:bX} (hx:mH E O t m k=some r):mH E O' t m k=some r:=by
 unfold mH at hx ⊢;split at hx
 ·rename_i kt et i kd hu;split at hx
  ·rename_i es h1;rw [h _ _ h1];exact hx
  ·cases hx
 ·cases hx
theorem sJ {E:Env} {O O' : Tab} (h:Le O O') {e i sz off len:Nat} {r:bX} (hx:nu E O e i sz off len=some r):nu E O' e i sz off len=some r:=by
 unfold nu at hx ⊢;split at hx
 ·rename_i sz' els z zz h1 h2 h3;rw [h _ _ h1,h2,h3];exact hx
 ·cases hx
theorem Br {E:Env} {O O' : Tab} (h:Le O O') {t:Nat} {x:RV} {r:bX} (hx:pq E O t x=some r):pq E O' t x=some r:=by
 unfold pq at hx ⊢;split at hx
 ·rename_i e i sz hu;split at hx
  ·rename_i sz' els h1;rw [h _ _ h1];exact sJ h hx
  ·cases hx
 ·rename_i e i sz off len hu;exact sJ h hx
 ·cases hx
theorem Fg {cf:dK} {R:Nat→RV} {O O' : Tab} (h:Le O O') {sl:Nat} (hs:O' sl=O sl) (hs1:O' (sl+1)=O (sl+1)) {o:Oper} {res:bX} {un:Bool} (hx:su cf R O sl o=some (res,un))
 (hk:∀p∈res.upd,O' p.1=O p.1):su cf R O' sl o=some (res,un):=by
 unfold su at hx ⊢
 have val:∀{r r' : Option bX},(match r with | some r=>some (r,false) | none=>none)=some (res,un)→(r=some res→r'=some res)→(match r' with | some r=>some (r,false) | none=>none)=some (res,un):=by
  intro r r' h1 h2;cases r with
  | none=>simp at h1
  | some r=>simp at h1;obtain ⟨rfl,rfl⟩:=h1;rw [h2 rfl]
 have aaT:∀{r:Option bX},(match r with | some r=>some (r,false) | none=>none)=some (res,un)→r=some res:=by
  intro r h1;cases r with
  | none=>simp at h1
  | some r=>simp at h1;rw [h1.1]
 cases ho:o.op<;>rw [ho] at hx<;>(try simp only at hx ⊢)<;>try exact hx
 case alloc t=>
  cases hz:cf.E.zero t with
  | none=>rw [hz] at hx;simp at hx
  | some z=>
    rw [hz] at hx;simp only at hx ⊢;refine val hx fun e=>?_;unfold oQ at e ⊢;rw [hs];exact e
 case box t x=>refine val hx fun e=>?_;unfold oQ at e ⊢;rw [hs];exact e
 case buildSlice t n parts=>exact val hx fun e=>sH h hs e
 case load t x=>exact val hx fun e=>Dw h e
 case store t x y=>
  cases h1:kY cf.E O t (aH R x) (aH R y) with
  | none=>rw [h1] at hx;simp at hx
  | some r=>rw [h1] at hx;rw [Bn h h1];exact hx
 case binOp op t x y yt=>exact val hx fun e=>Dy h e
 case convert s d x=>exact val hx fun e=>Dx h hs e
 case slice t x lo hi mx=>exact val hx fun e=>Bo h e
 case indexAddr t x i=>exact val hx fun e=>uH h e
 case makeFunc fn first caps=>exact val hx fun e=>vX h e
 case makeSlice t l c=>refine val hx fun e=>?_;unfold kZ at e ⊢;rw [hs];exact e
 case makeMap t hh=>refine val hx fun e=>?_;unfold mF at e ⊢;rw [hs];exact e
 case lookup t x i ok=>exact val hx fun e=>yU h e
 case mapUpdate t m k y=>
  cases h1:gu cf.E O t (aH R m) (aH R k) (aH R y) with
  | none=>rw [h1] at hx;simp at hx
  | some r=>rw [h1] at hx;rw [uJ h h1];exact hx
 case call c=>
  cases hc:c.callee with
  | builtin b=>
    rw [hc] at hx;simp only at hx ⊢;refine val hx fun e=>?_;unfold uy at e ⊢;split at e
    ·exact Fb h e
    ·rename_i t t2 x y _ _;cases hn:jL (cf.E.und t2) with
     | false=>rw [hn] at e;simp at e
     | true=>rw [hn] at e;simp only [cond_true] at e ⊢;exact yT h hs hs1 e
    ·exact e
    ·exact e
    ·exact yV h e
    ·exact Br h e
    ·cases e
  | value f=>
    rw [hc] at hx;simp only at hx ⊢;split at hx
    ·rename_i g first caps hg;cases hok:cf.dP g with
     | false=>rw [hok] at hx;simp at hx
     | true=>
       rw [hok] at hx;simp only [cond_true] at hx ⊢;exact val hx fun e=>Bp h e hk
    ·cases hx
  | _=>rw [hc] at hx;simp at hx
theorem eF {O O' : Tab} (h:Le O O') {i:Nat} {cs:List RV} (hx:bN O i=some cs):bN O' i=some cs:=by
 unfold bN at hx ⊢;split at hx
 ·rename_i t c he;rw [h _ _ he];exact hx
 ·rename_i t c he;rw [h _ _ he];exact hx
 ·cases hx
theorem lD {O O' : Tab} (h:Le O O') {i:Nat} {cs:List RV} (hx:bN O i=some cs):O' i=O i:=by
 unfold bN at hx;split at hx
 ·rename_i t c he;rw [h _ _ he,he]
 ·rename_i t c he;rw [h _ _ he,he]
 ·cases hx
theorem pQ {O O' : Tab} (h:Le O O') {i:Nat} {cs:List RV} (hx:bN O i=some cs) (l:List RV):vV O' i l=vV O i l:=by
 unfold vV;rw [lD h hx]
theorem qE {O O' : Tab} (h:Le O O') {z:Nat} {x:RV} {r:Nat×List RV} (hx:jg O z x=some r):jg O' z x=some r:=by
 unfold jg at hx ⊢;split at hx
 ·exact hx
 ·exact hx
 ·rename_i i sz o len cap;cases hc:bN O i with
  | none=>rw [hc] at hx;simp at hx
  | some cs=>rw [hc] at hx;simp only [eF h hc];exact hx
 ·cases hx
theorem Bt {E:Env} {O O' : Tab} (h:Le O O') {t:Nat} {a:RV} {r:bX} (hx:pE E O t a=some r):pE E O' t a=some r:=by
 unfold pE at hx ⊢;split at hx
 ·rename_i z i off hz;cases hc:bN O i with
  | none=>rw [hc] at hx;simp at hx
  | some cs=>rw [hc] at hx;simp only [eF h hc];exact hx
 ·cases hx
theorem yX {E:Env} {O O' : Tab} (h:Le O O') {t:Nat} {a v:RV} {r:bX} (hx:jT E O t a v=some r):jT E O' t a v=some r:=by
 unfold jT at hx ⊢;split at hx
 ·rename_i z i off hz;cases hc:bN O i with
  | none=>rw [hc] at hx;simp at hx
  | some cs=>rw [hc] at hx;simp only [eF h hc,pQ h hc];exact hx
 ·cases hx
theorem yY {E:Env} {O O' : Tab} (h:Le O O') {t:Nat} {x:RV} {lo hi mx:Option RV} {r:bX} (hx:mJ E O t x lo hi mx=some r):mJ E O' t x lo hi mx=some r:=by
 unfold mJ at hx ⊢;split at hx
 ·split at hx
  ·rename_i e i sz o len cap hu;cases hz:E.size e with
   | none=>rw [hz] at hx;simp at hx
   | some z=>
     rw [hz] at hx;simp only at hx;cases hc:bN O i with
     | none=>rw [hc] at hx;simp at hx
     | some cs=>
       have e1:zG O' i sz o len cap=zG O i sz o len cap:=by unfold zG;rw [lD h hc]
       rw [hc] at hx;simp only [eF h hc,e1];exact hx
  ·exact hx
  ·rename_i n e i off hu;cases hc:bN O i with
   | none=>rw [hc] at hx;simp at hx
   | some cs=>rw [hc] at hx;simp only [eF h hc];exact hx
  ·cases hx
 ·cases hx
theorem Bu {E:Env} {O O' : Tab} (h:Le O O') {sl:Nat} (hs:O' sl=O sl) {s d:Nat} {x:RV} {r:bX} (hx:pG E O sl s d x=some r):pG E O' sl s d x=some r:=by
 unfold pG at hx ⊢;split at hx
 ·rw [hs];exact hx
 ·rename_i e i sz o len cap hs hd;cases hg:(qj (E.und e)&&Nat.beq sz 1) with
  | false=>rw [hg] at hx;simp at hx
  | true=>
    rw [hg] at hx;cases hc:bN O i with
    | none=>rw [hc] at hx;simp at hx
    | some cs=>rw [hc] at hx;simp only [eF h hc];exact hx
 ·exact hx
 ·cases hx
theorem xJ {E:Env} {O O' : Tab} (h:Le O O') {sl:Nat} (hs:O' sl=O sl) {t:Nat} {s x:RV} {r:bX} (hx:kF E O sl t s x=some r):kF E O' sl t s x=some r:=by
 unfold kF at hx ⊢;split at hx
 ·rename_i e hu;split at hx
  ·rename_i z iA hz hby
   cases hsrc:jg O z x with
   | none=>rw [hsrc] at hx;simp at hx
   | some p=>
     obtain ⟨m,xs⟩:=p;rw [hsrc] at hx;simp only [qE h hsrc,hs] at hx ⊢;cases hg:(Nat.ble 1 iA&&lQ E e z) with
     | false=>rw [hg] at hx;simp at hx
     | true=>
       rw [hg] at hx;simp only [cond_true] at hx ⊢;split at hx
       ·exact hx
       ·rename_i i sz o len cap;cases hm:Nat.beq m 0 with
        | true=>rw [hm] at hx;exact hx
        | false=>
          rw [hm] at hx;simp only [cond_false] at hx ⊢;cases hc:bN O i with
          | none=>rw [hc] at hx;simp at hx
          | some cs=>
            have e1:roomFor O' i sz o len m cap cs.length=roomFor O i sz o len m cap cs.length:=by unfold roomFor;rw [lD h hc]
            rw [hc] at hx;simp only [eF h hc,pQ h hc,lD h hc,e1] at hx ⊢;exact hx
       ·cases hx
  ·cases hx
 ·cases hx
theorem Bv {E:Env} {O O' : Tab} (h:Le O O') {t:Nat} {x y:RV} {r:bX} (hx:pF E O t x y=some r):pF E O' t x y=some r:=by
 unfold pF at hx ⊢;split at hx
 ·rename_i e hu;cases hz:E.size e with
  | none=>rw [hz] at hx;simp at hx
  | some z=>
    rw [hz] at hx;simp only at hx ⊢;cases hsrc:jg O z y with
    | none=>rw [hsrc] at hx;simp at hx
    | some p=>
      obtain ⟨m,ys⟩:=p;rw [hsrc] at hx;simp only [qE h hsrc] at hx ⊢;split at hx
      ·exact hx
      ·rename_i i sz o len cap;cases h0:Nat.beq (Nat.min m len) 0 with
       | true=>rw [h0] at hx;exact hx
       | false=>
         rw [h0] at hx;simp only [cond_false] at hx ⊢;cases hc:bN O i with
         | none=>rw [hc] at hx;simp at hx
         | some cs=>rw [hc] at hx;simp only [eF h hc,pQ h hc] at hx ⊢;exact hx
      ·cases hx
 ·cases hx
theorem yZ {E:Env} {O O' : Tab} (h:Le O O') {t:Nat} {x:RV} {r:bX} (hx:mK E O t x=some r):mK E O' t x=some r:=by
 unfold mK at hx ⊢;split at hx
 ·rename_i e hu;split at hx
  ·exact hx
  ·rename_i i sz o len cap;cases h0:Nat.beq len 0 with
   | true=>rw [h0] at hx;exact hx
   | false=>
     rw [h0] at hx;simp only [cond_false] at hx ⊢;cases hc:bN O i with
     | none=>rw [hc] at hx;simp at hx
     | some cs=>rw [hc] at hx;simp only [eF h hc,pQ h hc] at hx ⊢;exact hx
  ·cases hx
 ·cases hx
theorem Fh {cf:dK} {R:Nat→RV} {O O' : Tab} (h:Le O O') {sl:Nat} (hs:O' sl=O sl) {o:Oper} {res:bX} {un:Bool} (hx:sw cf R O sl o=some (res,un)):sw cf R O' sl o=some (res,un):=by
 unfold sw at hx ⊢
 have val:∀{r r' : Option bX},mP r=some (res,un)→(r=some res→r'=some res)→mP r'=some (res,un):=by
  intro r r' h1 h2;cases r with
  | none=>simp [mP] at h1
  | some r=>simp [mP] at h1;obtain ⟨rfl,rfl⟩:=h1;rw [h2 rfl];rfl
 cases ho:o.op<;>rw [ho] at hx<;>(try simp only at hx ⊢)<;>try exact hx
 case alloc t=>
  cases hz:cf.E.zero t with
  | none=>rw [hz] at hx;simp at hx
  | some z=>
    rw [hz] at hx;simp only at hx ⊢;refine val hx fun e=>?_;unfold mI at e ⊢;rw [hs];exact e
 case box t x=>refine val hx fun e=>?_;unfold mI at e ⊢;rw [hs];exact e
 case buildSlice t n parts=>refine val hx fun e=>?_;unfold jK at e ⊢;rw [hs];exact e
 case load t x=>exact val hx fun e=>Bt h e
 case store t x y=>
  cases h1:jT cf.E O t (aH R x) (aH R y) with
  | none=>rw [h1] at hx;simp at hx
  | some r=>rw [h1] at hx;rw [yX h h1];exact hx
 case convert s d x=>exact val hx fun e=>Bu h hs e
 case slice t x lo hi mx=>exact val hx fun e=>yY h e
 case makeSlice t l c=>refine val hx fun e=>?_;unfold kC at e ⊢;rw [hs];exact e
 case range t x=>
  refine val hx fun e=>?_;unfold wG at e ⊢;rw [hs];split at e
  ·exact e
  ·rename_i i _ _;split at e
   ·rename_i hi;rw [h _ _ hi];exact e
   ·cases e
  ·cases e
 case next x str=>
  refine val hx fun e=>?_;unfold Bf at e ⊢;split at e
  ·rename_i j;split at e
   ·rename_i hO;rw [h _ _ hO];exact e
   ·rename_i m hO;rw [h _ _ hO];simp only;split at e
    ·rename_i hm;rw [h _ _ hm];exact e
    ·cases e
   ·cases e
  ·cases e
 case call c=>
  cases hc:c.callee with
  | builtin b=>
    rw [hc] at hx;simp only at hx ⊢;refine val hx fun e=>?_;unfold qW at e ⊢;split at e
    ·exact e
    ·exact e
    ·rename_i t t2 x y _ _;cases hn:jL (cf.E.und t2) with
     | false=>rw [hn] at e;simp at e
     | true=>rw [hn] at e;simp only [cond_true] at e ⊢;exact xJ h hs e
    ·exact Bv h e
    ·exact yZ h e
    ·exact e
    ·cases e
  | _=>rw [hc] at hx;simp at hx
theorem IV {cf:dK} {R:Nat→RV} {O O' : Tab} (h:Le O O') {sl:Nat} (hs:O' sl=O sl) (hs1:O' (sl+1)=O (sl+1)) {o:Oper} {res:bX} {un:Bool} (hx:lU cf R O sl o=some (res,un))
 (hk:∀p∈res.upd,O' p.1=O p.1):lU cf R O' sl o=some (res,un):=by
 unfold lU at hx ⊢;cases hv:((cf.vm&&Vp cf.E R o)||isIt o) with
 | false=>rw [hv] at hx;exact Fg h hs hs1 hx hk
 | true=>rw [hv] at hx;exact Fh h hs hx
def bD (u:List (Nat×au)):List Nat:=u.map (·.1)
theorem jV {u:List (Nat×au)}:∀{O:Tab} {i:Nat},i∉bD u→aQ O u i=O i:=by
 induction u with
 | nil=>intro O i _;rfl
 | cons x r ih=>
   intro O i h;simp only [bD,List.map_cons,List.mem_cons,not_or] at h
   show aQ (bq O x.1 (some x.2)) r i=O i
   rw [ih h.2,dD _ _ h.1]
theorem Bw {u:List (Nat×au)}:∀{O O' : Tab} {i:Nat},i∈bD u→aQ O u i=aQ O' u i:=by
 induction u with
 | nil=>intro O O' i h;simp [bD] at h
 | cons x r ih=>
   intro O O' i h
   show aQ (bq O x.1 (some x.2)) r i=aQ (bq O' x.1 (some x.2)) r i
   by_cases hr:i∈bD r
   ·exact ih hr
   ·have e:i=x.1:=by
     simp only [bD,List.map_cons,List.mem_cons] at h;rcases h with h | h
     ·exact h
     ·exact absurd h hr
    rw [jV hr,jV hr,e,bE,bE]
def gM (L:Nat→Bool):Nat→List (List (Nat×au))→Tab→Tab
 | _,[],O=>O
 | k,u::us,O=>gM L (k+1) us (bif L k then aQ O u else O)
theorem kQ {L M:Nat→Bool} {i:Nat}:∀(us:List (List (Nat×au))) (k:Nat) (O O' : Tab),O i=O' i→(∀(j:Nat) (u:List (Nat×au)),us[j]? = some u→i∈bD u→L (k+j)=M (k+j))→
 gM L k us O i=gM M k us O' i
 | [],_,_,_,h,_=>h
 | u::us,k,O,O',h,hj=>by
   simp only [gM];refine kQ us (k+1) _ _ ?_ (fun j u' hu hi=>by have:=hj (j+1) u' (by simpa using hu) hi;rw [show k+1+j=k+(j+1) by omega];exact this);by_cases hi:i∈bD u
   ·have:=hj 0 u rfl hi
    rw [Nat.add_zero] at this;rw [this];cases M k with
    | true=>simp only [cond_true];exact Bw hi
    | false=>simp only [cond_false];exact h
   ·have key:∀(b:Bool) (X:Tab),(bif b then aQ X u else X) i=X i:=fun b X=>by cases b<;>simp [jV hi]
    rw [key,key];exact h
theorem pR {L:Nat→Bool}:∀(us:List (List (Nat×au))) (k:Nat) (O:Tab),(∀j,j < us.length→L (k+j)=false)→gM L k us O=O
 | [],_,_,_=>rfl
 | u::us,k,O,h=>by
   simp only [gM]
   have:=h 0 (by simp);rw [Nat.add_zero] at this
   rw [this,cond_false];exact pR us (k+1) O (fun j hj=>by rw [show k+1+j=k+(j+1) by omega];exact h (j+1) (by simpa using hj))
theorem mQ:∀(us:List (List (Nat×au))) (k n:Nat) (O:Tab),gM (fun x=>decide (x < k+n)) k us O=(us.take n).foldl aQ O
 | [],_,n,O=>by simp [gM]
 | u::us,k,0,O=>by
   rw [List.take_zero,List.foldl_nil];exact pR _ _ _ (fun j _=>by simp)
 | u::us,k,n+1,O=>by
   simp only [gM,List.take_succ_cons,List.foldl_cons]
   have:decide (k < k+(n+1))=true:=by simp
   rw [this,cond_true,←mQ us (k+1) n];congr 1;funext x;congr 1;apply propext;omega
theorem oC {L L' : Nat→Bool}:∀(us:List (List (Nat×au))) (k j:Nat) (u:List (Nat×au)) (O:Tab),us[j]? = some u→L (k+j)=false→L' (k+j)=true→(∀x,x≠k+j→L' x=L x)→
 (∀(x:Nat) (u' : List (Nat×au)),j < x→us[x]? = some u'→L (k+x)=true→∀i∈bD u,i∉bD u')→gM L' k us O=aQ (gM L k us O) u
 | [],_,_,_,_,h,_,_,_,_=>by simp at h
 | a::us,k,0,u,O,h,h1,h2,h3,h4=>by
   simp at h;subst h;simp only [gM];rw [Nat.add_zero] at h1 h2 h3;rw [h1,h2,cond_true,cond_false]
   have rest:∀(vs:List (List (Nat×au))) (k' : Nat) (X:Tab),(∀j,L' (k'+j)=L (k'+j))→(∀(x:Nat) (u' : List (Nat×au)),vs[x]? = some u'→L (k'+x)=true→∀i∈bD a,i∉bD u')→
    gM L' k' vs (aQ X a)=aQ (gM L k' vs X) a:=by
    intro vs;induction vs with
    | nil=>intro k' X _ _;rfl
    | cons b vs ih=>
      intro k' X e1 e2;simp only [gM];have e0:=e1 0;rw [Nat.add_zero] at e0;rw [e0];have r1:∀j,L' (k'+1+j)=L (k'+1+j):=fun j=>by have:=e1 (j+1);rw [show k'+1+j=k'+(j+1) by omega];exact this
      have r2:∀(x:Nat) (u' : List (Nat×au)),vs[x]? = some u'→L (k'+1+x)=true→∀i∈bD a,i∉bD u':=fun x u' hu hl=>by
       exact e2 (x+1) u' (by simpa using hu) (by rw [show k'+(x+1)=k'+1+x by omega];exact hl)
      cases hL:L k' with
      | false=>simp only [cond_false];exact ih (k'+1) X r1 r2
      | true=>
        simp only [cond_true];have YM:=e2 0 b rfl (by rw [Nat.add_zero];exact hL)
        have comm:aQ (aQ X a) b=aQ (aQ X b) a:=by
         funext i;by_cases ha:i∈bD a
         ·have hb:=YM i ha;rw [jV hb];exact Bw ha
         ·rw [jV ha (O:=aQ X b)];by_cases hb:i∈bD b
          ·exact Bw hb
          ·rw [jV hb,jV hb,jV ha]
        rw [comm];exact ih (k'+1) _ r1 r2
   exact rest us (k+1) O (fun j=>h3 _ (by omega)) (fun x u' hu hl=>h4 (x+1) u' (by omega) (by simpa using hu) (by rw [show k+(x+1)=k+1+x by omega];exact hl))
 | a::us,k,j+1,u,O,h,h1,h2,h3,h4=>by
   simp only [gM];rw [h3 k (by omega)]
   exact oC us (k+1) j u _ (by simpa using h) (by rw [show k+1+j=k+(j+1) by omega];exact h1) (by rw [show k+1+j=k+(j+1) by omega];exact h2)
    (fun x hx=>h3 x (by omega)) (fun x u' hx hu hl=>h4 (x+1) u' (by omega) (by simpa using hu) (by rw [show k+(x+1)=k+1+x by omega];exact hl))
inductive Before (ops:Array Oper):Nat→Nat→Prop
 | edge {j k:Nat} {o:Oper} (ho:ops[j]? = some o) {e:Edge} (he:e∈o.after) (hb:Region.binds .any e=true) (hk:e.on=k):Before ops k j
 | step {j k:Nat} {o:Oper} (ho:ops[j]? = some o) {e:Edge} (he:e∈o.after) (hb:Region.binds .any e=true) (hk:Before ops k e.on):Before ops k j
def Kt (m k:Nat):Bool:=Nat.beq (m / 2 ^ k % 2) 1
theorem Bz (m k:Nat):Kt m k=m.testBit k:=by
 rw [Nat.testBit_eq_decide_div_mod_eq];unfold Kt;by_cases h:m / 2 ^ k % 2=1
 ·rw [uZ h,decide_eq_true h]
 ·rw [zi h,decide_eq_false h]
def GJ (acc:List Nat) (o:Oper):Nat:=o.after.toList.foldl (fun m e=>bif Region.binds .any e then (m ||| 2 ^ e.on) ||| acc.getD e.on 0 else m) 0
def y5:List Oper→List Nat→List Nat
 | [],acc=>acc
 | o::r,acc=>y5 r (acc++[GJ acc o])
theorem Fp {ops:Array Oper} {acc:List Nat} {o:Oper} {j:Nat} (ho:ops[j]? = some o) (hacc:∀(i k:Nat),(acc.getD i 0).testBit k=true→Before ops k i) {k:Nat} (h:(GJ acc o).testBit k=true):Before ops k j:=by
 unfold GJ at h
 have key:∀(l:List Edge) (m:Nat),(∀e∈l,e∈o.after)→(m.testBit k=true→Before ops k j)→
  (l.foldl (fun m e=>bif Region.binds .any e then (m ||| 2 ^ e.on) ||| acc.getD e.on 0 else m) m).testBit k=true→Before ops k j:=by
  intro l;induction l with
  | nil=>intro m _ hm h;exact hm h
  | cons e l ih=>
    intro m hl hm h;simp only [List.foldl_cons] at h;refine ih _ (fun x hx=>hl x (by simp [hx])) (fun h2=>?_) h;cases hb:Region.binds .any e with
    | false=>rw [hb] at h2;exact hm h2
    | true=>
      rw [hb] at h2;simp only [cond_true,Nat.testBit_or,Bool.or_eq_true,Nat.testBit_two_pow,decide_eq_true_eq] at h2;rcases h2 with (h2 | h2) | h2
      ·exact hm h2
      ·exact .edge ho (hl e (by simp)) hb h2
      ·exact .step ho (hl e (by simp)) hb (hacc _ _ h2)
 exact key o.after.toList 0 (fun e he=>by simpa using he) (fun h=>by simp at h) h
theorem pU {ops:Array Oper}:∀(l:List Oper) (acc:List Nat),(∀(i:Nat) (o:Oper),l[i]? = some o→ops[acc.length+i]? = some o)→(∀(i k:Nat),(acc.getD i 0).testBit k=true→Before ops k i)→
 ∀(i k:Nat),((y5 l acc).getD i 0).testBit k=true→Before ops k i
 | [],acc,_,h=>h
 | o::r,acc,hl,h=>by
   refine pU r (acc++[GJ acc o]) (fun i o' hi=>?_) (fun i k hk=>?_)
   ·have:=hl (i+1) o' (by simpa using hi)
    rw [←this];congr 1;simp;omega
   ·rcases Nat.lt_trichotomy i acc.length with hi | hi | hi
    ·refine h i k ?_;rw [List.getD_eq_getElem?_getD,List.getElem?_append_left hi] at hk;rw [List.getD_eq_getElem?_getD];exact hk
    ·subst hi;rw [List.getD_eq_getElem?_getD,List.getElem?_append_right (Nat.le_refl _)] at hk;simp at hk;exact Fp (by simpa using hl 0 o rfl) h hk
    ·rw [List.getD_eq_getElem?_getD,List.getElem?_append_right (by omega)] at hk
     have:i-acc.length≠0:=by omega
     simp [this] at hk
theorem Before.done {ops:Array Oper} {L:Nat→Bool} (hL:∀(j:Nat) (o:Oper),ops[j]? = some o→L j=true→∀e∈o.after,Region.binds .any e=true→L e.on=true) {k j:Nat} (h:Before ops k j) (hj:L j=true):L k=true:=by
 induction h with
 | edge ho he hb hk=>subst hk;exact hL _ _ ho hj _ he hb
 | step ho he hb _ ih=>exact ih (hL _ _ ho hj _ he hb)
theorem Before.ready {ops:Array Oper} {L:Nat→Bool} (hL:∀(j:Nat) (o:Oper),ops[j]? = some o→L j=true→∀e∈o.after,Region.binds .any e=true→L e.on=true) {k j:Nat} (h:Before ops k j)
 (hj:∀o,ops[j]? = some o→∀e∈o.after,Region.binds .any e=true→L e.on=true):L k=true:=by
 cases h with
 | edge ho he hb hk=>subst hk;exact hj _ ho _ he hb
 | step ho he hb hk=>exact hk.done hL (hj _ ho _ he hb)
def VZ (o:Oper):Bool:=match o.op with
 | .move _=>false
 | .assign _=>false
 | .pick _ _ _=>false
 | .build _ _=>false
 | .nilCheck _=>false
 | .unOp _ _ _=>false
 | .fieldAddr _ _ _=>false
 | .field _ _ _=>false
 | .index _ _ _=>false
 | .extract _ _=>false
 | _=>true
def V3:RV→List Nat
 | .own i _=>[i]
 | _=>[]
def foot (R:Nat→RV) (O:Tab) (o:Oper):List Nat:=match o.op with
 | .call c=>match c.callee with
   | .builtin _=>c.args.toList.flatMap fun x=>(aH R x).refs 6
   | _=>reach O 400 (o.op.operands.toList.flatMap fun x=>(aH R x).refs 6) []
 | .store _ x _=>(aH R x).refs 6
 | .box _ _=>[]
 | .alloc _=>[]
 | .buildSlice _ _ _=>[]
 | .makeFunc _ _ _=>[]
 | .indexAddr _ x _=>V3 (aH R x)
 | _=>bif VZ o then o.op.operands.toList.flatMap fun x=>(aH R x).refs 6 else []
def mR (F:List Nat) (O:Tab):Tab:=fun i=>bif F.any (fun j=>Nat.beq j i) then O i else none
def kR (O:Tab) (F ks:List Nat):Bool:=ks.all fun i=>F.any (fun j=>Nat.beq j i)||(O i).isNone
def bA (n z:Nat) (o:Oper):Nat:=match o.dst with
 | some d=>z+32*d
 | none=>z+32*n
def qp (cf:dK) (ops:Array Oper) (ov:Ov) (R:Nat→RV) (O:Tab) (sl:Nat) (o:Oper):Option (RV×List (Nat×au)×List Bool×List (RV×RV)):=
 match guardOf R ops o with
 | none=>none
 | some false=>some (.und,[],[],[])
 | some true=>match lU cf R O sl o with
   | none=>none
   | some (res,_)=>match o.dst with
     | none=>some (.bot,res.upd,res.conds,[])
     | some d=>match uE d ov with
       | none=>some (res.val,res.upd,res.conds,[])
       | some v=>some (v,res.upd,res.conds,[(res.val,v)])
theorem GK {κ:bn} {φ:bG} {w:World} {s:bP} {a:Act} {cf:dK} (hcf:jh P cf) {ops:Array Oper} {ov:Ov} {o:Oper} {v:RV} {u:List (Nat×au)} {cs:List Bool} {es:List (RV×RV)} {sl:Nat} (F:av κ φ w s a)
 (h:qp cf ops ov s.R s.O sl o=some (v,u,cs,es)) (hc:∀c∈cs,c=true) (he:∀e∈es,ji e.1 e.2) {i:Nat} (hi:ops[i]? = some o)
 (hn:∀(j:Nat) (gg:Oper) (t:Nat),ops[j]? = some gg→gg.dst=some t→t < s.n) {Q:Exit→Act→World→Prop} {K:Act→World→Prop}
 (hk:∀a' w' κ' φ',av κ' φ' w' { s with R:=iI s.R o.dst v,O:=aQ s.O u } a'→Fr κ w κ' w'→Kp φ s.O φ' (aQ s.O u)→K a' w'):wpOp P ops Q i K a w:=by
 unfold qp at h;unfold wpOp;rw [hi];simp only;have hdst:∀d,o.dst=some d→d < s.n:=fun d hd=>hn i o d hi hd;split at h
 ·simp at h
 ·rename_i hg;rw [fE F hg (fun j want gg t _ hj ht=>hn j gg t hj ht)];simp only [Bool.false_eq_true,if_false];injection h with h;injection h with h1 h2;injection h2 with h2 h3;subst h1;subst h2;exact hk _ _ κ φ (F.iI hdst .und) (Fr.refl _ _) (Kp.refl _ _)
 ·rename_i hg;rw [fE F hg (fun j want gg t _ hj ht=>hn j gg t hj ht)];simp only [if_true];left;split at h
  ·simp at h
  ·rename_i res un hex
   have fin:∀rv,v=rv→u=res.upd→ji res.val rv∨o.dst=none→(∀c∈res.conds,c=true)→o.wp P a w K Q:=by
    rintro rv rfl rfl hle hcc
    refine Dn hcf F (sl:=sl) hex hcc (fun u' w' κ' φ' g1 g2 g3 g4=>?_);refine hk _ _ κ' φ' ?_ g3 g4;rcases hle with hle | hle
    ·exact av.iI (s:={ s with O:=aQ s.O res.upd }) g1 hdst (hle _ _ _ _ _ g2)
    ·rw [hle];exact av.wD g1 u'
   split at h
   ·rename_i hd;injection h with h;injection h with h1 h2;injection h2 with h2 h3;injection h3 with h3 h4;subst h3;exact fin v rfl h2.symm (.inr hd) hc
   ·split at h
    ·injection h with h;injection h with h1 h2;injection h2 with h2 h3;injection h3 with h3 h4;subst h3;exact fin v rfl h2.symm (.inl (h1▸fun _ _ _ _ _ r=>r)) hc
    ·rename_i vv hv;injection h with h;injection h with h1 h2;injection h2 with h2 h3;injection h3 with h3 h4;subst h3;subst h4;subst h1;exact fin _ rfl h2.symm (.inl (he (res.val,vv) (by simp))) hc
def xK (cf:dK) (ops:Array Oper) (ov:Ov) (n z:Nat):List Oper→T RV→T au→List Bool→List (RV×RV)→List (List Nat×List Nat)→Option (T RV×T au×List Bool×List (RV×RV)×List (List Nat×List Nat))
 | [],t,ob,cs,es,rs=>some (t,ob,cs,es,rs)
 | o::r,t,ob,cs,es,rs=>
   match qp cf ops ov (aX t) (mR (foot (aX t) ob.get o) ob.get) (bA n z o) o with
   | none=>none
   | some (v,u,c,e)=>
     bif oo u&&kR ob.get (foot (aX t) ob.get o) (bA n z o::(bA n z o+1)::bD u) then
      match o.dst with
      | none=>xK cf ops ov n z r t (iQ ob u) (cs++c) (es++e) (rs++[(foot (aX t) ob.get o++bA n z o::(bA n z o+1)::bD u,bD u)])
      | some d=>bif Nat.ble d 8000 then xK cf ops ov n z r (t.set d (some v)) (iQ ob u) (cs++c) (es++e) (rs++[(foot (aX t) ob.get o++bA n z o::(bA n z o+1)::bD u,bD u)]) else none
     else none
theorem pV {cf:dK} {ops:Array Oper} {ov:Ov} {n z:Nat}:∀(l:List Oper) (t t' : T RV) (ob BA : T au) (cs cs' : List Bool) (es es' : List (RV×RV)) (rs rs' : List (List Nat×List Nat)),
 xK cf ops ov n z l t ob cs es rs=some (t',BA,cs',es',rs')→(∀c∈cs,c∈cs')∧(∀e∈es,e∈es')∧(∀d,(∀o∈l,o.dst≠some d)→aX t' d=aX t d)
 | [],t,t',ob,BA,cs,cs',es,es',rs,rs',h=>by
   simp [xK] at h;obtain ⟨rfl,rfl,rfl,rfl,rfl⟩:=h;exact ⟨fun _ h=>h,fun _ h=>h,fun _ _=>rfl⟩
 | o::r,t,t',ob,BA,cs,cs',es,es',rs,rs',h=>by
   simp only [xK] at h;split at h
   ·simp at h
   ·rename_i v u c e h1;cases hb0:(oo u&&kR ob.get (foot (aX t) ob.get o) (bA n z o::(bA n z o+1)::bD u)) with
    | false=>rw [hb0] at h;simp at h
    | true=>
      rw [hb0] at h;simp only [cond_true] at h;cases hd:o.dst with
      | none=>
        rw [hd] at h;simp only at h;obtain ⟨q1,q2,q3⟩:=pV r _ _ _ _ _ _ _ _ _ _ h;exact ⟨fun c hc=>q1 c (by simp [hc]),fun e he=>q2 e (by simp [he]),fun d hh=>q3 d (fun o ho=>hh o (by simp [ho]))⟩
      | some d0=>
        rw [hd] at h;simp only at h;cases hb:Nat.ble d0 8000 with
        | false=>rw [hb] at h;simp at h
        | true=>
          rw [hb] at h;simp only [cond_true] at h;obtain ⟨q1,q2,q3⟩:=pV r _ _ _ _ _ _ _ _ _ _ h;have hle:=Nat.le_of_ble_eq_true hb;refine ⟨fun c hc=>q1 c (by simp [hc]),fun e he=>q2 e (by simp [he]),fun d hh=>?_⟩;rw [q3 d (fun o ho=>hh o (by simp [ho])),jc (by omega)]
          have:d≠d0:=fun e=>hh o (by simp) (by rw [hd,e])
          simp [iP,this]
theorem GL {cf:dK} {ops:Array Oper} {ov:Ov} {n z:Nat}:∀(l:List Oper) (t t' : T RV) (ob BA : T au) (cs cs' : List Bool) (es es' : List (RV×RV)) (rs rs' : List (List Nat×List Nat)),
 xK cf ops ov n z l t ob cs es rs=some (t',BA,cs',es',rs')→
 (∀(i j:Nat) (p q:Oper) (d:Nat),l[i]? = some p→l[j]? = some q→p.dst=some d→q.dst=some d→i=j)→
 ∃(us:List (List (Nat×au))) (rr:List (List Nat×List Nat)),us.length=l.length∧rs'=rs++rr∧rr.length=l.length∧BA.get=us.foldl aQ ob.get∧
 ∀(j:Nat) (o:Oper),l[j]? = some o→∃(R:Nat→RV) (F:List Nat) (v:RV) (u:List (Nat×au)) (c:List Bool) (e:List (RV×RV)),
  qp cf ops ov R (mR F ((us.take j).foldl aQ ob.get)) (bA n z o) o=some (v,u,c,e)∧us[j]? = some u∧rr[j]? = some (F++bA n z o::(bA n z o+1)::bD u,bD u)∧
  kR ((us.take j).foldl aQ ob.get) F (bA n z o::(bA n z o+1)::bD u)=true∧(∀x∈c,x∈cs')∧(∀x∈e,x∈es')∧
  (∀d,o.dst=some d→aX t' d=v)∧(∀d,(∀(i:Nat) (p:Oper),i < j→l[i]? = some p→p.dst≠some d)→R d=aX t d)∧
  (∀(i:Nat) (p:Oper) (d:Nat),i < j→l[i]? = some p→p.dst=some d→R d=aX t' d)
 | [],t,t',ob,BA,cs,cs',es,es',rs,rs',h,hnd=>by
   simp [xK] at h;obtain ⟨rfl,rfl,rfl,rfl,rfl⟩:=h;exact ⟨[],[],rfl,by simp,rfl,rfl,fun j o hj=>by simp at hj⟩
 | o0::r,t,t',ob,BA,cs,cs',es,es',rs,rs',h,hnd=>by
   simp only [xK] at h;split at h
   ·simp at h
   ·rename_i v u c e h1;cases hb0:(oo u&&kR ob.get (foot (aX t) ob.get o0) (bA n z o0::(bA n z o0+1)::bD u)) with
    | false=>rw [hb0] at h;simp at h
    | true=>
      rw [hb0] at h;simp only [cond_true] at h;simp only [Bool.and_eq_true] at hb0;have hset:=qX u ob hb0.1
      have hnd' : ∀(i j:Nat) (p q:Oper) (d:Nat),r[i]? = some p→r[j]? = some q→p.dst=some d→q.dst=some d→i=j:=fun i j p q d hi hj' hp hq=>by
       have:=hnd (i+1) (j+1) p q d (by simpa using hi) (by simpa using hj') hp hq;omega
      have tail:∀(t1:T RV),xK cf ops ov n z r t1 (iQ ob u) (cs++c) (es++e) (rs++[(foot (aX t) ob.get o0++bA n z o0::(bA n z o0+1)::bD u,bD u)])=some (t',BA,cs',es',rs')→
       (∀d,o0.dst≠some d→aX t1 d=aX t d)→(∀d,o0.dst=some d→aX t1 d=v)→
       ∃(us:List (List (Nat×au))) (rr:List (List Nat×List Nat)),us.length=(o0::r).length∧rs'=rs++rr∧rr.length=(o0::r).length∧BA.get=us.foldl aQ ob.get∧
       ∀(j:Nat) (o:Oper),(o0::r)[j]? = some o→∃(R:Nat→RV) (F:List Nat) (v:RV) (u:List (Nat×au)) (c:List Bool) (e:List (RV×RV)),
        qp cf ops ov R (mR F ((us.take j).foldl aQ ob.get)) (bA n z o) o=some (v,u,c,e)∧us[j]? = some u∧rr[j]? = some (F++bA n z o::(bA n z o+1)::bD u,bD u)∧
        kR ((us.take j).foldl aQ ob.get) F (bA n z o::(bA n z o+1)::bD u)=true∧(∀x∈c,x∈cs')∧(∀x∈e,x∈es')∧
        (∀d,o.dst=some d→aX t' d=v)∧(∀d,(∀(i:Nat) (p:Oper),i < j→(o0::r)[i]? = some p→p.dst≠some d)→R d=aX t d)∧
        (∀(i:Nat) (p:Oper) (d:Nat),i < j→(o0::r)[i]? = some p→p.dst=some d→R d=aX t' d):=by
       intro t1 hr ht1 ht2;obtain ⟨m1,m2,m3⟩:=pV r _ _ _ _ _ _ _ _ _ _ hr;obtain ⟨us,rr,a1,a2,a3,a4,a5⟩:=GL r t1 t' _ _ _ _ _ _ _ _ hr hnd';refine ⟨u::us,(foot (aX t) ob.get o0++bA n z o0::(bA n z o0+1)::bD u,bD u)::rr,by simp [a1],by rw [a2];simp,by simp [a3],by rw [a4,hset];rfl,fun j o hj=>?_⟩;cases j with
       | zero=>
         simp at hj;subst hj;refine ⟨aX t,foot (aX t) ob.get o0,v,u,c,e,h1,rfl,rfl,hb0.2,fun x hx=>m1 x (by simp [hx]),fun x hx=>m2 x (by simp [hx]),fun d hd=>?_,fun d _=>rfl,fun i p d hi=>by omega⟩
         rw [m3 d (fun q hq qo=>by
          obtain ⟨k,hk⟩:=List.mem_iff_getElem?.1 hq
          have:=hnd 0 (k+1) o0 q d rfl (by simpa using hk) hd qo;omega)]
         exact ht2 d hd
       | succ j=>
         obtain ⟨R,F,v',u',c',e',k1,k2,k3,k4,k5,k6,k7,k8,k9⟩:=a5 j o (by simpa using hj);rw [hset] at k1 k4;refine ⟨R,F,v',u',c',e',by simpa using k1,by simpa using k2,by simpa using k3,by simpa using k4,k5,k6,k7,fun d hd=>?_,fun i p d hi hp vW=>?_⟩
         ·rw [k8 d (fun i p hi hp=>hd (i+1) p (by omega) (by simpa using hp))];exact ht1 d (hd 0 o0 (by omega) rfl)
         ·cases i with
          | zero=>
            simp at hp;subst hp
            rw [k8 d (fun i q hi hq qo=>by
             have:=hnd 0 (i+1) o0 q d rfl (by simpa using hq) vW qo;omega)]
            rw [m3 d (fun q hq qo=>by
             obtain ⟨k,hk⟩:=List.mem_iff_getElem?.1 hq
             have:=hnd 0 (k+1) o0 q d rfl (by simpa using hk) vW qo;omega)]
          | succ i=>exact k9 i p d (by omega) (by simpa using hp) vW
      cases hd:o0.dst with
      | none=>
        rw [hd] at h;simp only at h;exact tail t h (fun _ _=>rfl) (fun d hh=>by rw [hd] at hh;cases hh)
      | some d0=>
        rw [hd] at h;simp only at h;cases hb:Nat.ble d0 8000 with
        | false=>rw [hb] at h;simp at h
        | true=>
          rw [hb] at h;simp only [cond_true] at h;have hle:=Nat.le_of_ble_eq_true hb;refine tail _ h (fun d hh=>?_) (fun d hh=>?_)
          ·rw [jc (by omega)]
           have:d≠d0:=fun e=>hh (by rw [hd,e])
           simp [iP,this]
          ·rw [jc (by omega)];rw [hd] at hh;injection hh with hh;subst hh;simp [iP]
def hits (a b:List Nat):Bool:=a.any fun i=>b.any fun j=>Nat.beq j i
theorem wH {a b:List Nat} {i:Nat} (h1:i∈a) (h2:i∈b):hits a b=true:=
 List.any_eq_true.2 ⟨i,h1,List.any_eq_true.2 ⟨i,h2,uZ rfl⟩⟩
def oD (rs:List (List Nat×List Nat)) (ms:List Nat):Bool:=rs.zipIdx.all fun (rj,j)=>rs.zipIdx.all fun (rk,k)=>
 !(Nat.ble (k+1) j)||(!(hits rk.2 rj.1) && !(hits rj.2 rk.1))||Kt (ms.getD j 0) k
theorem lF {rs:List (List Nat×List Nat)} {ms:List Nat} (h:oD rs ms=true) {j k:Nat} {rj rk:List Nat×List Nat} (hj:rs[j]? = some rj) (hk:rs[k]? = some rk) (hlt:k < j)
 (hh:hits rk.2 rj.1=true∨hits rj.2 rk.1=true):(ms.getD j 0).testBit k=true:=by
 have h1:=List.all_eq_true.1 h (rj,j) (by rw [List.mem_zipIdx_iff_getElem?];exact hj);have h2:=List.all_eq_true.1 h1 (rk,k) (by rw [List.mem_zipIdx_iff_getElem?];exact hk);simp only [Bool.or_eq_true,Bool.and_eq_true,Bool.not_eq_true'] at h2;rw [←Bz];rcases h2 with (h2 | h2) | h2
 ·rw [Nat.ble_eq_true_of_le (by omega)] at h2;cases h2
 ·rcases hh with hh | hh
  ·rw [h2.1] at hh;cases hh
  ·rw [h2.2] at hh;cases hh
 ·exact h2
theorem sK {F:List Nat} {O:Tab} {i:Nat} (h:(F.any fun j=>Nat.beq j i)=true):mR F O i=O i:=by simp [mR,h]
theorem pW {F:List Nat} {O:Tab} {i:Nat} (h:(F.any fun j=>Nat.beq j i)=false):mR F O i=none:=by simp [mR,h]
theorem GN {F:List Nat} {i:Nat} (h:(F.any fun j=>Nat.beq j i)=true):i∈F:=by
 obtain ⟨j,h1,h2⟩:=List.any_eq_true.1 h
 have:=bQ h2;subst this;exact h1
theorem zL {cf:dK} {ops:Array Oper} {ov:Ov} {R R' : Nat→RV} {O O' : Tab} {sl:Nat} {o:Oper} {r:RV×List (Nat×au)×List Bool×List (RV×RV)} (h:qp cf ops ov R O sl o=some r)
 (hg:guardOf R' ops o=guardOf R ops o) (hr:∀x∈o.op.operands,aH R x=aH R' x) (hO:Le O O') (hs:O' sl=O sl) (hs1:O' (sl+1)=O (sl+1)) (hk:∀p∈r.2.1,O' p.1=O p.1):qp cf ops ov R' O' sl o=some r:=by
 unfold qp at h ⊢;rw [hg];split at h
 ·cases h
 ·exact h
 ·split at h
  ·cases h
  ·rename_i res un hex
   have hu:r.2.1=res.upd:=by
    split at h
    ·injection h with h;subst h;rfl
    ·split at h<;>(injection h with h;subst h;rfl)
   rw [nC (R:=R) (R':=R') hr] at hex;rw [IV hO hs hs1 hex (fun p hp=>hk p (by rw [hu];exact hp))];exact h
theorem Oi {cf:dK} (hcf:jh P cf) {ops:Array Oper} {ov:Ov} {s:bP} {t t' : T RV} {ob BA : T au} {cs:List Bool} {es:List (RV×RV)} {rs:List (List Nat×List Nat)} {z m:Nat} {κ:bn} {φ:bG} {w:World} {a:Act}
 (hq:iB ops=true) (hg:cO s.n ops=true) (hs:s.R=aX t) (hsO:s.O=ob.get) (hrun:xK cf ops ov s.n z ops.toList t ob [] [] []=some (t',BA,cs,es,rs))
 (hrows:oD rs (y5 ops.toList [])=true) (hc:∀c∈cs,c=true) (he:∀e∈es,ji e.1 e.2) (F0:av κ φ w s a) :
 wpAny P .any ops (fun e a' w'=>e = .normal∧∃κ' φ',av κ' φ' w' { s with R:=aX t',O:=BA.get } a'∧Fr κ w κ' w'∧mZ m φ s.O φ' BA.get) ops.size (Array.replicate ops.size false) a w:=by
 have hnd:∀(i j:Nat) (p q:Oper) (d:Nat),ops.toList[i]? = some p→ops.toList[j]? = some q→p.dst=some d→q.dst=some d→i=j:=by
  intro i j p q d hi hj hp qo;rcases ((bS hq (j:=j) (o:=q) (by simpa using hj)).2 i p d (by simpa using hi) hp).1 with h | h
  ·exact h
  ·exact absurd qo h
 obtain ⟨us,rr,ul,hrs,rl,Dh,hat⟩:=GL ops.toList t t' ob BA [] cs [] es [] rs hrun hnd;rw [List.nil_append] at hrs;subst hrs;have hout:=(pV ops.toList t t' ob BA [] cs [] es [] rs hrun).2.2;have YG:us.length=ops.size:=by simpa using ul
 have Ku:=pU (ops:=ops) ops.toList [] (fun i o hi=>by simpa using hi) (fun i k h=>by simp at h)
 have full:∀(L:Array Bool),L.size=ops.size→(∀i,i < ops.size→L.getD i true=true)→bK ops s.R (aX t') L=aX t'∧gM (fun i=>L.getD i false) 0 us s.O=BA.get:=by
  intro L hL hall
  have DC:∀i,i < ops.size→L.getD i false=true:=fun i hi=>by
   have hlt2:i < L.size:=by omega
   have:=hall i hi
   simp [Array.getD,hlt2] at this ⊢;exact this
  constructor
  ·funext d;unfold bK;split
   ·rfl
   ·rename_i hne;rw [hs,hout d (fun o ho hd=>hne ?_)];obtain ⟨i,hi⟩:=List.mem_iff_getElem?.1 ho;have hi' : ops[i]? = some o:=by simpa using hi
    exact ⟨i,o,hi',hd,DC i (Array.getElem?_eq_some_iff.1 hi').1⟩
  ·rw [Dh,hsO];funext i;have e1:=mQ us 0 us.length ob.get;rw [List.take_length] at e1;rw [←e1];refine kQ us 0 _ _ rfl (fun j u hu _=>?_);have hj:=(List.getElem?_eq_some_iff.1 hu).1;rw [Nat.zero_add,DC j (by omega)];simp [hj]
 have main:∀(fuel:Nat) (L:Array Bool) (κ1:bn) (φ1:bG) (w1:World) (a1:Act),L.size=ops.size→L.toList.countP (· == false)=fuel→
  (∀(j:Nat) (o:Oper),ops[j]? = some o→L.getD j false=true→∀e∈o.after,Region.binds .any e=true→L.getD e.on false=true)→
  av κ1 φ1 w1 { s with R:=bK ops s.R (aX t') L,O:=gM (fun i=>L.getD i false) 0 us s.O } a1→
  Fr κ w κ1 w1→mZ m φ s.O φ1 (gM (fun i=>L.getD i false) 0 us s.O)→
  wpAny P .any ops (fun e a' w'=>e = .normal∧∃κ' φ',av κ' φ' w' { s with R:=aX t',O:=BA.get } a'∧Fr κ w κ' w'∧mZ m φ s.O φ' BA.get) fuel L a1 w1:=by
  intro fuel;induction fuel with
  | zero=>
    intro L κ1 φ1 w1 a1 hL hcnt hcl F hR hK;have hall:=kP hcnt;obtain ⟨f1,f2⟩:=full L hL (fun i hi=>hall i (by omega));rw [f1,f2] at F;rw [f2] at hK;refine ⟨?_,rfl,κ1,φ1,F,hR,hK⟩;cases hr:Region.ready .any ops L with
    | nil=>rfl
    | cons i r=>
      obtain ⟨o,_,h1,h2,_⟩:=mem_ready (md:=.any) (ops:=ops) (L:=L) (i:=i) (by rw [hr];simp);rw [hall i (by omega)] at h2;cases h2
  | succ fuel ih=>
    intro L κ1 φ1 w1 a1 hL hcnt hcl F hR hK;refine ⟨fun hr=>?_,fun j hj=>?_⟩
    ·have hall:=ready_nil hL (fun j o ho=>(bS hq ho).1) hr;obtain ⟨f1,f2⟩:=full L hL hall;rw [f1,f2] at F;rw [f2] at hK;exact ⟨rfl,κ1,φ1,F,hR,hK⟩
    ·obtain ⟨o,ho,hjn,hlj,gY⟩:=mem_ready hj;obtain ⟨R,Fj,v,u,c,e,k1,k2,k3,k4,kc,ke,k5,k6,k7⟩:=hat j o (by simpa using ho);obtain ⟨s1,s2⟩:=bS hq ho
     have ou:L.getD j false=false:=by
      have:j < L.size:=by omega
      simp [Array.getD,this] at hlj ⊢;exact hlj
     have same:∀d,d∈looks o ops→bK ops s.R (aX t') L d=R d:=by
      intro d hd;by_cases hw:∃(i:Nat) (p:Oper),ops[i]? = some p∧p.dst=some d
      ·obtain ⟨i,p,hi,hp⟩:=hw;rcases (s2 i p d hi hp).2 hd with ⟨hij,ed,he1,he2,qY⟩ | ⟨hij,ed,he1,he2,qY⟩
       ·have Oh:L.getD i false=true:=by rw [←he2];exact gY ed he1 qY
        unfold bK;rw [if_pos ⟨i,p,hi,hp,Oh⟩];exact (k7 i p d hij (by simpa using hi) hp).symm
       ·have only:∀(i' : Nat) (p' : Oper),ops[i']? = some p'→p'.dst=some d→i'=i:=fun i' p' h1 h2=>hnd i' i p' p d (by simpa using h1) (by simpa using hi) h2 hp;unfold bK
        rw [if_neg (fun ⟨i',p',h1,h2,h3⟩=>by
         have e:=only i' p' h1 h2;subst e;rw [h1] at hi;injection hi with hi;subst hi
         have:=hcl i' p' h1 h3 ed he1 qY
         rw [he2,ou] at this;cases this),hs]
        exact (k6 d (fun i' p' h0 h1 h2=>by have:=only i' p' (by simpa using h1) h2;omega)).symm
      ·unfold bK;rw [if_neg (fun ⟨i,p,hi,hp,_⟩=>hw ⟨i,p,hi,hp⟩),hs];exact (k6 d (fun i p _ hp vW=>hw ⟨i,p,by simpa using hp,vW⟩)).symm
     have BD:guardOf (bK ops s.R (aX t') L) ops o=guardOf R ops o:=by
      unfold guardOf;cases hgu:o.guard with
      | none=>rfl
      | some p=>
        obtain ⟨g,want⟩:=p;simp only;cases hog:ops[g]? with
        | none=>rfl
        | some gg=>
          simp only;cases hgd:gg.dst with
          | none=>rfl
          | some d=>
            simp only;rw [same d (by simp only [looks,List.mem_append];right;rw [hgu];simp only [hog,hgd];simp)]
     have Kv:∀x∈o.op.operands,aH R x=aH (bK ops s.R (aX t') L) x:=fun x hx=>kN fun d hd=>by
      subst hd;refine (same d ?_).symm;simp only [looks,List.mem_append,List.mem_filterMap];left;exact ⟨.tmp d,by simpa using hx,rfl⟩
     have rowAt:∀(x:Nat) (u' : List (Nat×au)),us[x]? = some u'→∃tx,rs[x]? = some (tx,bD u')∧∀i∈bD u',i∈tx:=by
      intro x u' hu';have hx:=(List.getElem?_eq_some_iff.1 hu').1;have hox:ops.toList[x]? = some ops.toList[x]:=by simp [show x < ops.size by omega]
      obtain ⟨_,F',_,u2,_,_,_,g2,g3,_⟩:=hat x _ hox;rw [hu'] at g2;injection g2 with g2;subst g2;exact ⟨_,g3,fun i hi=>by simp [hi]⟩
     have before:∀(x:Nat) (u' : List (Nat×au)) (i:Nat),x < j→us[x]? = some u'→i∈bD u'→i∈(Fj++bA s.n z o::(bA s.n z o+1)::bD u)→L.getD x false=true:=by
      intro x u' i hxj hu' hi ht;obtain ⟨tx,g1,_⟩:=rowAt x u' hu'
      exact (Ku j x (lF hrows k3 g1 hxj (.inl (wH hi ht)))).ready (L:=fun i=>L.getD i false) hcl (fun o' ho' e he hb=>by
       rw [ho] at ho';injection ho' with ho';subst ho';exact gY e he hb)
     have after:∀(x:Nat) (u' : List (Nat×au)) (i:Nat),j < x→us[x]? = some u'→i∈bD u'→i∈(Fj++bA s.n z o::(bA s.n z o+1)::bD u)→L.getD x false=false:=by
      intro x u' i hxj hu' hi ht;obtain ⟨tx,g1,_⟩:=rowAt x u' hu';cases hlx:L.getD x false with
      | false=>rfl
      | true=>
        have:=(Ku x j (lF hrows g1 k3 hxj (.inr (wH hi ht)))).done (L:=fun i=>L.getD i false) hcl hlx
        rw [ou] at this;cases this
     have agree:∀i,i∈(Fj++bA s.n z o::(bA s.n z o+1)::bD u)→gM (fun i=>L.getD i false) 0 us s.O i=(us.take j).foldl aQ ob.get i:=by
      intro i hi;have e1:=mQ us 0 j ob.get;rw [←e1,hsO];refine kQ us 0 _ _ rfl (fun x u' hu' hk=>?_);rw [Nat.zero_add,Nat.zero_add];rcases Nat.lt_trichotomy x j with h | h | h
      ·rw [before x u' i h hu' hk hi];simp [h]
      ·subst h;rw [ou];simp
      ·rw [after x u' i h hu' hk hi]
       have:¬x < j:=by omega
       simp [this]
     have rz:∀i,i∈(bA s.n z o::(bA s.n z o+1)::bD u)→gM (fun i=>L.getD i false) 0 us s.O i=mR Fj ((us.take j).foldl aQ ob.get) i:=by
      intro i hi;rw [agree i (List.mem_append.2 (.inr hi))];cases hF:(Fj.any fun j=>Nat.beq j i) with
      | true=>rw [sK hF]
      | false=>
        rw [pW hF]
        have:=List.all_eq_true.1 k4 i hi
        rw [hF] at this;simpa using this
     have hev:qp cf ops ov (bK ops s.R (aX t') L) (gM (fun i=>L.getD i false) 0 us s.O) (bA s.n z o) o=some (v,u,c,e):=by
      refine zL k1 BD Kv (fun i p hp=>?_) (rz _ (by simp)) (rz _ (by simp)) (fun p hp=>rz _ (by simp [bD];exact .inr (.inr ⟨p.2,hp⟩)));cases hF:(Fj.any fun j=>Nat.beq j i) with
      | true=>
        rw [sK hF] at hp;rw [agree i (List.mem_append.2 (.inl (GN hF)))];exact hp
      | false=>rw [pW hF] at hp;cases hp
     refine GK hcf F hev (fun x hx=>hc x (kc x hx)) (fun x hx=>he x (ke x hx)) ho (bV hg) (fun a' w' κ' φ' g1 g2 g3=>?_)
     have hget:∀i,(L.setIfInBounds j true).getD i false=if i=j then true else L.getD i false:=by
      intro i;simp only [Array.getD_eq_getD_getElem?,Array.getElem?_setIfInBounds];by_cases e:i=j
      ·subst e;have:i < L.size:=by omega
       simp [this]
      ·have:¬j=i:=fun h=>e h.symm
       simp [e,this]
     have hset:iI (bK ops s.R (aX t') L) o.dst v=bK ops s.R (aX t') (L.setIfInBounds j true):=by
      funext d;cases hd:o.dst with
      | none=>
        simp only [iI];unfold bK;congr 1;apply propext;constructor
        ·rintro ⟨i,p,h1,h2,h3⟩
         exact ⟨i,p,h1,h2,by rw [hget];split;rfl;exact h3⟩
        ·rintro ⟨i,p,h1,h2,h3⟩
         rw [hget] at h3;by_cases e:i=j
         ·subst e;rw [ho] at h1;injection h1 with h1;subst h1;rw [hd] at h2;cases h2
         ·rw [if_neg e] at h3;exact ⟨i,p,h1,h2,h3⟩
      | some d0=>
        simp only [iI,iP];by_cases e0:d=d0
        ·subst e0;rw [if_pos rfl];unfold bK;rw [if_pos ⟨j,o,ho,hd,by rw [hget];simp⟩,k5 d hd]
        ·rw [if_neg e0];unfold bK;congr 1;apply propext;constructor
         ·rintro ⟨i,p,h1,h2,h3⟩
          exact ⟨i,p,h1,h2,by rw [hget];split;rfl;exact h3⟩
         ·rintro ⟨i,p,h1,h2,h3⟩
          rw [hget] at h3;by_cases e:i=j
          ·subst e;rw [ho] at h1;injection h1 with h1;subst h1;rw [hd] at h2;injection h2 with h2;exact absurd h2.symm e0
          ·rw [if_neg e] at h3;exact ⟨i,p,h1,h2,h3⟩
     have eY:gM (fun i=>(L.setIfInBounds j true).getD i false) 0 us s.O=aQ (gM (fun i=>L.getD i false) 0 us s.O) u:=by
      refine oC us 0 j u s.O k2 (by rw [Nat.zero_add];exact ou) (by rw [Nat.zero_add,hget];simp) (fun x hx=>by rw [hget,if_neg (by omega)]) (fun x u' hx hu' hl i hi hi'=>?_);rw [Nat.zero_add] at hl;rw [after x u' i hx hu' hi' (by simp [hi])] at hl;cases hl
     have hc2:=count_set (L:=L) (i:=j) (by omega) hlj;refine ih (L.setIfInBounds j true) κ' φ' w' a' (by simpa using hL) (by omega) (fun i o' ho' hi e' he' hb'=>?_) ?_ (hR.trans g2) ?_
     ·rw [hget] at hi ⊢;by_cases ej:e'.on=j
      ·rw [if_pos ej]
      ·rw [if_neg ej];by_cases ei:i=j
       ·subst ei;rw [ho] at ho';injection ho' with ho';subst ho';exact gY e' he' hb'
       ·rw [if_neg ei] at hi;exact hcl i o' ho' hi e' he' hb'
     ·rw [←hset,eY];exact g1
     ·rw [eY];exact hK.trans (g3.m m)
 have e0:∀i,(Array.replicate ops.size false).getD i false=false:=fun i=>by
  by_cases hi:i < ops.size<;>simp [Array.getD,hi]
 have m0:gM (fun i=>(Array.replicate ops.size false).getD i false) 0 us s.O=s.O:=pR us 0 s.O (fun j _=>e0 _)
 have r0:bK ops s.R (aX t') (Array.replicate ops.size false)=s.R:=by
  funext d;unfold bK;rw [if_neg]
  rintro ⟨i,o,_,_,h3⟩
  rw [e0] at h3;cases h3
 refine main ops.size (Array.replicate ops.size false) κ φ w a (by simp) (by simp [List.countP_replicate]) (fun j o _ hj=>by rw [e0] at hj;cases hj) ?_ (Fr.refl _ _) ?_
 ·rw [m0,r0];exact F0
 ·rw [m0];exact mZ.refl _ _ _
def Ql (ob:T au) (ops:Array Oper) (n step:Nat):Nat→Nat→Nat
 | 0,z=>z
 | f+1,z=>bif ops.toList.all fun o=>Kn ob (bA n z o) then z else Ql ob ops n step f (z+step)
def kS (cf:dK) (ov:Ov) (ops:Array Oper) (draw:Bool) (ac:Acc):Option Acc:=
 bif cO ac.st.n ops then
  bif draw then
   bif iB ops then
    match xG cf ops ov ac.st.objs.get ops.toList ac.st.regs [] [] with
    | some (t,cs,es)=>some { st:={ ac.st with regs:=t },cs:=ac.cs++cs,es:=ac.es++es }
    | none=>match xK cf ops ov ac.st.n (Ql ac.st.objs ops ac.st.n (32*(ac.st.n+1)) 400 64) ops.toList ac.st.regs ac.st.objs [] [] [] with
      | some (t,ob,cs,es,rs)=>bif oD rs (y5 ops.toList []) then some { st:={ ac.st with regs:=t,objs:=ob },cs:=ac.cs++cs,es:=ac.es++es } else none
      | none=>none
   else none
  else oq cf ops ov ops.toList ac
 else none
def drive (cf:dK) (ov:Ov):Nat→Nat→List It→Acc→Option (List It×Acc)
 | 0,_,_,_=>none
 | n+1,l,k,ac=>
   match k with
   | []=>some ([],ac)
   | .blk _::k=>drive cf ov n l k ac
   | .scp _::k=>drive cf ov n l k ac
   | .lp b::k=>match l with
     | 0=>some (.code b :: .lp b::k,ac)
     | l+1=>drive cf ov n l (.code b :: .lp b::k) ac
   | .code c::k=>match c with
     | .skip=>drive cf ov n l k ac
     | .seq x y=>drive cf ov n l (.code x :: .code y::k) ac
     | .region _ ops draw=>match kS cf ov ops draw ac with
       | some jd=>drive cf ov n l k jd
       | none=>none
     | .cond c x y=>match aH (aX ac.st.regs) c with
       | .d (.bool t)=>match t with
         | true=>drive cf ov n l (.code x::k) ac
         | false=>drive cf ov n l (.code y::k) ac
       | _=>none
     | .block id b=>drive cf ov n l (.code b :: .blk id::k) ac
     | .loop b=>match l with
       | 0=>some (.code b :: .lp b::k,ac)
       | l+1=>drive cf ov n l (.code b :: .lp b::k) ac
     | .exit id=>match kL id k with
       | some k'=>drive cf ov n l k' ac
       | none=>none
     | .ret=>some ([],ac)
     | .label _=>drive cf ov n l k ac
     | .scope b=>drive cf ov n l (.code b :: .scp b::k) ac
     | _=>none
theorem qF {cf:dK} {ov:Ov} {ops:Array Oper} {draw:Bool} {ac jd : Acc} (h:kS cf ov ops draw ac=some jd) :
 (∀c∈ac.cs,c∈jd.cs)∧(∀e∈ac.es,e∈jd.es)∧jd.st.m=ac.st.m∧jd.st.n=ac.st.n:=by
 unfold kS at h;cases hg:cO ac.st.n ops with
 | false=>rw [hg] at h;simp at h
 | true=>
   rw [hg] at h;simp only [cond_true] at h;cases draw with
   | false=>simp only [cond_false] at h;exact uF _ h
   | true=>
     simp only [cond_true] at h;cases hq:iB ops with
     | false=>rw [hq] at h;simp at h
     | true=>
       rw [hq] at h;simp only [cond_true] at h;split at h
       ·injection h with h;subst h;exact ⟨fun c hc=>by simp [hc],fun e he=>by simp [he],rfl,rfl⟩
       ·split at h
        ·rename_i t ob cs es rs hr;cases hw:oD rs (y5 ops.toList []) with
         | false=>rw [hw] at h;simp at h
         | true=>
           rw [hw] at h;simp only [cond_true] at h;injection h with h;subst h;exact ⟨fun c hc=>by simp [hc],fun e he=>by simp [he],rfl,rfl⟩
        ·simp at h
theorem y7 {cf:dK} (hcf:jh P cf) (eY:P.follows .mixedOrders=true) {ov:Ov} {ops:Array Oper} {draw:Bool} {ac jd : Acc} (h:kS cf ov ops draw ac=some jd)
 (hc:∀c∈jd.cs,c=true) (he:∀e∈jd.es,ji e.1 e.2) {id:Nat} {k:List It} {m:Nat} {Q:bP→Prop} (hk:WK P m k jd.st.den Q):WK P m (.code (.region id ops draw)::k) ac.st.den Q:=by
 unfold kS at h;cases hg:cO ac.st.n ops with
 | false=>rw [hg] at h;simp at h
 | true=>
   rw [hg] at h;simp only [cond_true] at h;cases draw with
   | false=>
     simp only [cond_false] at h;refine WK.region (s':=jd.st.den) (fun κ φ w a F=>?_) hk
     have:=zI (Q:=fun e a' w'=>e = .normal∧∃κ' φ',av κ' φ' w' jd.st.den a'∧Fr κ w κ' w'∧mZ m φ ac.st.den.O φ' jd.st.den.O) hcf ops.toList 0 F h hc he hg (fun i o hi=>by simpa using hi)
      (fun a' w' κ' φ' g1 g2 g3=>⟨rfl,κ',φ',g1,g2,g3.m m⟩)
     rw [List.range_eq_range'];simpa using this
   | true=>
     simp only [cond_true] at h;cases hq:iB ops with
     | false=>rw [hq] at h;simp at h
     | true=>
       rw [hq] at h;simp only [cond_true] at h;cases hr:xG cf ops ov ac.st.objs.get ops.toList ac.st.regs [] [] with
       | none=>
         rw [hr] at h;simp only at h;split at h
         ·rename_i t ob cs es rs hr2;cases hw:oD rs (y5 ops.toList []) with
          | false=>rw [hw] at h;simp at h
          | true=>
            rw [hw] at h;simp only [cond_true] at h;injection h with h;subst h;refine WK.sF (s':={ ac.st.den with R:=aX t,O:=ob.get }) eY (fun κ φ w a F=>?_) hk;exact Oi (s:=ac.st.den) (t:=ac.st.regs) (ob:=ac.st.objs) hcf hq hg rfl rfl hr2 hw (fun c hcc=>hc c (by simp [hcc])) (fun e hee=>he e (by simp [hee])) F
         ·simp at h
       | some p=>
         obtain ⟨t,cs,es⟩:=p;rw [hr] at h;simp only [Option.some.injEq] at h;subst h;refine WK.sF (s':={ ac.st.den with R:=aX t }) eY (fun κ φ w a F=>?_) hk;have key:=IU (κ0:=κ) (w0:=w) (φ0:=φ) (m:=m) hcf (s:=ac.st.den) (t:=ac.st.regs) hq hg rfl hr (fun c hcc=>hc c (by simp [hcc])) (fun e hee=>he e (by simp [hee]))
         refine key ops.size (Array.replicate ops.size false) κ φ w a (by simp) (by simp [List.countP_replicate]) (fun j o hj hl=>by
          exfalso;by_cases hi:j < ops.size<;>simp [Array.getD,hi] at hl) ?_ (Fr.refl _ _) (mZ.refl _ _ _)
         have:bK ops ac.st.den.R (aX t) (Array.replicate ops.size false)=ac.st.den.R:=by
          funext d;unfold bK;rw [if_neg]
          rintro ⟨i,o,_,_,h3⟩
          by_cases hi:i < ops.size<;>simp [Array.getD,hi] at h3
         rw [this];exact F
theorem fT {cf:dK} {ov:Ov}:∀(n l:Nat) (k k' : List It) (ac jd : Acc),drive cf ov n l k ac=some (k',jd)→(∀c∈ac.cs,c∈jd.cs)∧(∀e∈ac.es,e∈jd.es)
 | 0,_,_,_,_,_,h=>by simp [drive] at h
 | n+1,l,k,k',ac,jd,h=>by
   have base:∀{k k' : List It} {a a' : Acc},some (k,a)=some (k',a')→(∀c∈a.cs,c∈a'.cs)∧(∀e∈a.es,e∈a'.es):=by
    intro k k' a a' h;injection h with h;injection h with h1 h2;subst h2;exact ⟨fun _ h=>h,fun _ h=>h⟩
   unfold drive at h;split at h
   ·exact base h
   ·exact fT n l _ _ _ _ h
   ·exact fT n l _ _ _ _ h
   ·split at h
    ·exact base h
    ·exact fT n _ _ _ _ _ h
   ·split at h
    ·exact fT n l _ _ _ _ h
    ·exact fT n l _ _ _ _ h
    ·split at h
     ·rename_i a1 hs;obtain ⟨p1,p2,_⟩:=qF hs;obtain ⟨q1,q2⟩:=fT n l _ _ _ _ h;exact ⟨fun c hc=>q1 c (p1 c hc),fun e he=>q2 e (p2 e he)⟩
     ·simp at h
    ·split at h
     ·split at h<;>exact fT n l _ _ _ _ h
     ·simp at h
    ·exact fT n l _ _ _ _ h
    ·split at h
     ·exact base h
     ·exact fT n _ _ _ _ _ h
    ·split at h
     ·exact fT n l _ _ _ _ h
     ·simp at h
    ·exact base h
    ·exact fT n l _ _ _ _ h
    ·exact fT n l _ _ _ _ h
    ·simp at h
theorem eZ {cf:dK} (hcf:jh P cf) (eY:P.follows .mixedOrders=true) {ov:Ov} {m:Nat} {Q:bP→Prop}:∀(n l:Nat) (k k' : List It) (ac jd : Acc),drive cf ov n l k ac=some (k',jd)→
 (∀c∈jd.cs,c=true)→(∀e∈jd.es,ji e.1 e.2)→(k'=[]→Q jd.st.den)→(k'≠[]→WK P m k' jd.st.den Q)→WK P m k ac.st.den Q
 | 0,_,_,_,_,_,h,_,_,_,_=>by simp [drive] at h
 | n+1,l,k,k',ac,jd,h,hc,he,h1,h2=>by
   unfold drive at h;split at h
   ·injection h with h;injection h with e1 e2;subst e1;subst e2;exact WK.done (h1 rfl)
   ·exact WK.blk (eZ hcf eY n l _ _ _ _ h hc he h1 h2)
   ·exact WK.scp (eZ hcf eY n l _ _ _ _ h hc he h1 h2)
   ·split at h
    ·injection h with h;injection h with e1 e2;subst e1;subst e2;exact WK.again (h2 (by simp))
    ·exact WK.again (eZ hcf eY n _ _ _ _ _ h hc he h1 h2)
   ·split at h
    ·exact WK.skip (eZ hcf eY n l _ _ _ _ h hc he h1 h2)
    ·exact WK.seq (eZ hcf eY n l _ _ _ _ h hc he h1 h2)
    ·split at h
     ·rename_i a1 hs;obtain ⟨q1,q2⟩:=fT n l _ _ _ _ h;exact y7 hcf eY hs (fun c hcc=>hc c (q1 c hcc)) (fun e hee=>he e (q2 e hee)) (eZ hcf eY n l _ _ _ _ h hc he h1 h2)
     ·simp at h
    ·split at h
     ·rename_i t hcond;cases t with
      | true=>exact WK.cond (t:=true) hcond (eZ hcf eY n l _ _ _ _ h hc he h1 h2)
      | false=>exact WK.cond (t:=false) hcond (eZ hcf eY n l _ _ _ _ h hc he h1 h2)
     ·simp at h
    ·exact WK.block (eZ hcf eY n l _ _ _ _ h hc he h1 h2)
    ·split at h
     ·injection h with h;injection h with e1 e2;subst e1;subst e2;exact WK.enter (h2 (by simp))
     ·exact WK.enter (eZ hcf eY n _ _ _ _ _ h hc he h1 h2)
    ·split at h
     ·rename_i k1 hex;exact WK.exit hex (eZ hcf eY n l _ _ _ _ h hc he h1 h2)
     ·simp at h
    ·injection h with h;injection h with e1 e2;subst e1;subst e2;exact WK.ret (h1 rfl)
    ·exact WK.label (eZ hcf eY n l _ _ _ _ h hc he h1 h2)
    ·exact WK.scope (eZ hcf eY n l _ _ _ _ h hc he h1 h2)
    ·simp at h
theorem av.Q6 {κ:bn} {φ:bG} {w:World} {s:bP} {a:Act} (F:av κ φ w s a) {t sl ty sz sz' : Nat} (ht:s.R t = .d (.aL sz' [] true)) (hs:s.O sl=none) :
 av κ (gU φ sl .nil) w { s with R:=iP s.R t (.own sl sz),O:=bq s.O sl (some (.arr ty sz [])) } a∧Kp φ s.O (gU φ sl .nil) (bq s.O sl (some (.arr ty sz []))):=by
 have hun:φ sl = .un:=by have:=F.objs sl;rw [hs] at this;exact this
 obtain ⟨q1,q2,_⟩:=F.vU (i:=sl) (p:=.arr ty sz []) (κ':=κ) (φ':=gU φ sl .nil) (w':=w) (Nat.le_refl _) (fun _ h=>h) (fun _ _ _ _ h=>h) (fun _ _ h=>h) (fun _ _ _ _=>rfl)
  (fun j hj=>lq _ _ hj) (fun h=>absurd hun h) (fun _ c _ fz hc=>⟨c,fz,hc,rfl⟩) (fun h=>absurd hun h) F.bnd.lt (fun M=>.inl ⟨aM _ _ _,rfl⟩)
 refine ⟨⟨fun x=>?_,q1.objs,q1.bnd,q1.n,q1.df⟩,q2.kp⟩;by_cases e:x=t
 ·subst e;simp only [iP,if_true];have r:=F.regs x;rw [ht] at r;generalize a.tmps.getD x undef=v at r;cases r with
  | d hr=>
    cases hr with
    | iD hf=>have:=(hf rfl).1;subst this;exact .fP (aM _ _ _)
    | aL _ _ hf hc _ _ _=>have:=(hf rfl).1;simp only [List.length_nil] at this;subst this;exact .fP (aM _ _ _)
 ·simp only [iP,if_neg e];exact q1.regs x
def jk (olds lG:List Nat) (i:Nat):Option Nat:=
 match idx i olds 0 with
 | some k=>lG[k]?
 | none=>none
theorem rA {olds lG:List Nat} {i j:Nat} (h:jk olds lG i=some j):∃k:Nat,olds[k]? = some i∧lG[k]? = some j:=by
 unfold jk at h;cases e:idx i olds 0 with
 | none=>rw [e] at h;simp at h
 | some k=>rw [e] at h;exact ⟨k,by have:=(jS i olds 0 k e).2;simpa using this,h⟩
theorem sM {olds lG:List Nat} (hn:nodupB olds=true) {i j k:Nat} (h1:olds[k]? = some i) (h2:lG[k]? = some j):jk olds lG i=some j:=by
 unfold jk;obtain ⟨k',hk'⟩:=jJ i olds 0 (List.mem_iff_getElem?.2 ⟨k,h1⟩)
 have:=(jS i olds 0 k' hk').2
 simp only [Nat.sub_zero] at this;rw [hk',iZ olds hn k' k i this h1];exact h2
theorem BF {ρ:Nat→Option Nat} {p q:au} (h:p.ren ρ=some q):au.cB (some q)=au.cB (some p):=by
 cases p<;>simp only [au.ren] at h<;>try (injection h with h;subst h;rfl)
 ·split at h
  ·injection h with h;subst h;rfl
  ·simp at h
 ·split at h
  ·rename_i hm;injection h with h;subst h;simp only [au.cB,(dJ _ _ _ hm).1]
  ·simp at h
 ·split at h
  ·injection h with h;subst h;rfl
  ·simp at h
theorem av.keep {κ:bn} {φ:bG} {w:World} {s s' : bP} {a:Act} (F:av κ φ w s a) {olds lG:List Nat} (hl:lG.length=olds.length) (h1:nodupB olds=true) (h2:nodupB lG=true)
 (hn:s'.n=s.n) (hdf:s.df=[]) (YN : s'.df=[]) (hR:∀t,s'.R t = .bot∨RV.ren (jk olds lG) 6 (s.R t)=some (s'.R t))
 (hO:∀(k i j:Nat),olds[k]? = some i→lG[k]? = some j→∃p q,s.O i=some p∧p.ren (jk olds lG)=some q∧s'.O j=some q) (hO' : ∀j,j∉lG→s'.O j=none) :
 ∃κ' φ',av κ' φ' w s' a∧Fr κ w κ' w∧∀(m:Nat),(∀i,i < m→jk olds lG i=some i)→mZ m φ s.O φ' s'.O:=by
 let κ' : bn:=fun b=>match κ b with
  | .dA=>.dA
  | .own i=>match jk olds lG i with | some j=>.own j | none=>.kr
  | .kr=>.kr
 let φ' : bG:=fun j=>match jk lG olds j with | some i=>φ i | none=>.un
 have inv:∀i j,jk olds lG i=some j→jk lG olds j=some i:=fun i j h=>by
  obtain ⟨k,e1,e2⟩:=rA h;exact sM h2 e2 e1
 have iE:∀b,κ b = .dA→κ' b = .dA:=fun b hb=>by simp only [κ',hb]
 have hφ:∀i j,jk olds lG i=some j→φ i≠.un→φ' j=φ i:=fun i j h _=>by simp only [φ',inv i j h]
 have hlen:∀i j n,jk olds lG i=some j→φ i≠.un→au.cB (s'.O j)=some n→au.cB (s.O i)=some n:=by
  intro i j n h _ hn;obtain ⟨k,e1,e2⟩:=rA h;obtain ⟨p,q,g1,g2,g3⟩:=hO k i j e1 e2;rw [g1,←BF g2,←g3];exact hn
 refine ⟨κ',φ',⟨fun t=>?_,fun j=>?_,F.bnd.same (fun b e=>by simp only [κ',e]) (fun b e=>by simp only [κ',e]),by rw [hn];exact F.n,by have h0:=F.df;rw [hdf] at h0;rw [YN,h0.nil];trivial⟩,
  ⟨Nat.le_refl _,fun b hb=>⟨iE b hb,rfl⟩,fun b _ hb=>⟨by simp only [κ',hb],rfl⟩,fun _ c _ fz hc=>⟨c,fz,hc,rfl⟩,rfl,rfl⟩,fun m hm=>⟨fun i hi hu=>hφ i i (hm i hi) hu,fun i n hi hu hn=>hlen i i n (hm i hi) hu hn⟩⟩
 ·rcases hR t with e | e
  ·rw [e];exact .bot _
  ·exact bB.ren iE hφ hlen 6 _ _ _ e (F.regs t)
 ·by_cases hj:j∈lG
  ·obtain ⟨k,hk⟩:=List.mem_iff_getElem?.1 hj;have hlt:=(List.getElem?_eq_some_iff.1 hk).1;have hlt2:k < olds.length:=by omega
   have hi:olds[k]? = some olds[k]:=by simp [hlt2]
   obtain ⟨p,q,g1,g2,g3⟩:=hO k _ j hi hk;rw [g3];have ho:=F.objs olds[k];rw [g1] at ho;exact OR.ren iE hφ hlen (sM h1 hi hk) (fun b hb=>by simp only [κ',hb,sM h1 hi hk]) g2 ho
  ·rw [hO' j hj]
   show φ' j = .un
   simp only [φ'];cases e:jk lG olds j with
   | none=>rfl
   | some i=>
     obtain ⟨k,e1,_⟩:=rA e;exact absurd (List.mem_iff_getElem?.2 ⟨k,e1⟩) hj
structure Post where
 nV:List (Nat×Nat×Nat×Nat):=[]
 live:List Nat
 olds:List Nat:=[]
 lG:List Nat:=[]
def oF:List (Nat×Nat×Nat×Nat)→jB→Option jB
 | [],st=>some st
 | (t,sl,ty,sz)::r,st=>match aX st.regs t,st.objs.get sl with
   | .d (.aL _ [] true),none=>bif Nat.ble t 8000&&Nat.ble sl 65000 then oF r { st with regs:=st.regs.set t (some (.own sl sz)),objs:=st.objs.set sl (some (.arr ty sz [])) } else none
   | _,_=>none
def sN {α:Type}:List Nat→List α→List (Nat×α)
 | i::r,x::q=>(i,x)::sN r q
 | _,_=>[]
def BG (p:Post) (st:jB):Option jB:=
 let olds:=List.range st.m++p.olds
 let lG:=List.range st.m++p.lG
 bif Nat.beq lG.length olds.length&&nodupB olds&&nodupB lG&&nodupB p.live&&(p.live.all fun t=>Nat.ble t 8000)&&(lG.all fun t=>Nat.ble t 65000) then
  match dO (fun t=>RV.ren (jk olds lG) 6 (aX st.regs t)) p.live,dO (fun i=>match st.objs.get i with | some q=>q.ren (jk olds lG) | none=>none) olds with
  | some rs,some os=>some { st with regs:=T.mk (sN p.live rs),objs:=T.mk (sN lG os) }
  | _,_=>none
 else none
def xL (p:Post) (st:jB):Option jB:=
 match oF p.nV st with
 | some st'=>BG p st'
 | none=>none
theorem Fq {α:Type}:∀(l:List Nat) (v:List α),v.length=l.length→nodupB l=true→(l.all fun t=>Nat.ble t 65000)=true→
 (∀(k i:Nat),l[k]? = some i→(T.mk (sN l v)).get i=v[k]?)∧(∀i,i∉l→(T.mk (sN l v)).get i=none)
 | [],v,hl,_,_=>by
   have:v=[]:=List.eq_nil_of_length_eq_zero (by simpa using hl)
   subst this;exact ⟨by simp,fun i _=>rfl⟩
 | i0::l,[],hl,_,_=>by simp at hl
 | i0::l,x::v,hl,hn,hb=>by
   simp only [nodupB,Bool.and_eq_true,Bool.not_eq_true'] at hn;simp only [List.all_cons,Bool.and_eq_true] at hb;obtain ⟨h1,h2⟩:=Fq l v (by simpa using hl) hn.2 hb.2;have hlt:=Nat.le_of_ble_eq_true hb.1
   have hni:i0∉l:=fun hm=>by
    have:=List.any_eq_false.1 hn.1 i0 hm
    rw [uZ rfl] at this;simp at this
   refine ⟨fun k i hk=>?_,fun i hi=>?_⟩
   ·cases k with
    | zero=>simp at hk;subst hk;simp only [sN,T.mk];rw [T.get_set_same _ (by omega)];rfl
    | succ k=>
      simp only [List.getElem?_cons_succ] at hk;have hne:i≠i0:=fun e=>by subst e;exact hni (List.mem_iff_getElem?.2 ⟨k,hk⟩)
      simp only [sN,T.mk];rw [T.cu _ hne,h1 k i hk];rfl
   ·simp only [List.mem_cons,not_or] at hi;simp only [sN,T.mk];rw [T.cu _ hi.1,h2 i hi.2]
theorem zM:∀(l:List (Nat×Nat×Nat×Nat)) {st st' : jB},oF l st=some st'→(∀κ φ w a,av κ φ w st.den a→∃φ',av κ φ' w st'.den a∧Kp φ st.den.O φ' st'.den.O)∧st'.m=st.m∧st'.n=st.n
 | [],st,st',h=>by simp [oF] at h;subst h;exact ⟨fun κ φ w a F=>⟨φ,F,Kp.refl _ _⟩,rfl,rfl⟩
 | (t,sl,ty,sz)::r,st,st',h=>by
   simp only [oF] at h;split at h
   ·rename_i sz' hr ho;cases hb:(Nat.ble t 8000&&Nat.ble sl 65000) with
    | false=>rw [hb] at h;simp at h
    | true=>
      rw [hb] at h;simp only [cond_true] at h;simp only [Bool.and_eq_true] at hb;have b1:=Nat.le_of_ble_eq_true hb.1;have b2:=Nat.le_of_ble_eq_true hb.2;obtain ⟨h1,h2,h3⟩:=zM r h;refine ⟨fun κ φ w a F=>?_,h2,h3⟩;obtain ⟨g1,g2⟩:=av.Q6 (s:=st.den) F (t:=t) (sl:=sl) (ty:=ty) (sz:=sz) hr ho
      have e:({ st with regs:=st.regs.set t (some (.own sl sz)),objs:=st.objs.set sl (some (.arr ty sz [])) }:jB).den = { st.den with R:=iP st.den.R t (.own sl sz),O:=bq st.den.O sl (some (.arr ty sz [])) }:=by
       simp only [jB.den];rw [jc (by omega)];congr 1;funext j;by_cases e:j=sl
       ·subst e;rw [T.get_set_same _ (by omega),bE]
       ·rw [T.cu _ e,dD _ _ e]
      rw [←e] at g1;obtain ⟨φ',g3,g4⟩:=h1 κ _ w a g1;rw [e] at g4;exact ⟨φ',g3,g2.trans g4⟩
   ·simp at h
theorem IW {p:Post} {st st' : jB} (h:xL p st=some st') {k:List It} {Q:bP→Prop} (hk:WK P st.m k st'.den Q):WK P st.m k st.den Q:=by
 unfold xL at h;cases h1:oF p.nV st with
 | none=>rw [h1] at h;simp at h
 | some s1=>
   rw [h1] at h;simp only at h;obtain ⟨n1,n2,n3⟩:=zM _ h1;unfold BG at h;simp only at h;generalize ho:List.range s1.m++p.olds=olds at h;generalize hw:List.range s1.m++p.lG=lG at h;cases hg:(Nat.beq lG.length olds.length&&nodupB olds&&nodupB lG&&nodupB p.live&&(p.live.all fun t=>Nat.ble t 8000)&&(lG.all fun t=>Nat.ble t 65000)) with
   | false=>rw [hg] at h;simp at h
   | true=>
     rw [hg] at h;simp only [cond_true] at h;simp only [Bool.and_eq_true] at hg;obtain ⟨⟨⟨⟨⟨g1,g2⟩,g3⟩,g4⟩,g5⟩,g6⟩:=hg;have g1:=bQ g1;cases hr:dO (fun t=>RV.ren (jk olds lG) 6 (aX s1.regs t)) p.live with
     | none=>rw [hr] at h;simp at h
     | some rs=>
       cases hos:dO (fun i=>match s1.objs.get i with | some q=>q.ren (jk olds lG) | none=>none) olds with
       | none=>rw [hr,hos] at h;simp at h
       | some os=>
         rw [hr,hos] at h;simp only [Option.some.injEq] at h;subst h;obtain ⟨r1,r2⟩:=dJ _ _ _ hr;obtain ⟨o1,o2⟩:=dJ _ _ _ hos
         have g5' : (p.live.all fun t=>Nat.ble t 65000)=true:=by
          rw [List.all_eq_true] at g5 ⊢;intro t ht
          have:=Nat.le_of_ble_eq_true (g5 t ht)
          exact Nat.ble_eq_true_of_le (by omega)
         obtain ⟨q1,q2⟩:=Fq p.live rs r1 g4 g5';obtain ⟨q3,q4⟩:=Fq lG os (by omega) g3 g6;refine hk.state fun κ φ w a F=>?_;obtain ⟨φ1,F1,K1⟩:=n1 κ φ w a F
         obtain ⟨κ2,φ2,F2,R2,K2⟩:=F1.keep (s':=({ s1 with regs:=T.mk (sN p.live rs),objs:=T.mk (sN lG os) }:jB).den) g1 g2 g3 rfl rfl rfl (fun t=>by
          by_cases ht:t∈p.live
          ·right;obtain ⟨k,hk⟩:=List.mem_iff_getElem?.1 ht;have hlt:=(List.getElem?_eq_some_iff.1 hk).1;have hlt2:k < rs.length:=by omega
           have hrs:rs[k]? = some rs[k]:=by simp [hlt2]
           have e:aX (T.mk (sN p.live rs)) t=rs[k]:=by unfold aX;rw [q1 k t hk,hrs]
           show RV.ren (jk olds lG) 6 (aX s1.regs t)=some (aX (T.mk (sN p.live rs)) t)
           rw [e];exact r2 k t _ hk hrs
          ·left
           show aX (T.mk (sN p.live rs)) t = .bot
           unfold aX;rw [q2 t ht]) (fun k i j hi hj=>by
          have hlt:=(List.getElem?_eq_some_iff.1 hi).1;have hlt2:k < os.length:=by omega
          have hq:os[k]? = some os[k]:=by simp [hlt2]
          have:=o2 k i _ hi hq
          cases e:s1.objs.get i with
          | none=>simp only [e] at this;cases this
          | some pp=>simp only [e] at this;exact ⟨pp,_,e,this,by show (T.mk (sN lG os)).get j=_;rw [q3 k j hj,hq]⟩) (fun j hj=>q4 j hj)
         refine ⟨κ2,φ2,F2,R2,(K1.m st.m).trans (K2 st.m fun i hi=>?_)⟩;have hi' : i < s1.m:=by omega
         refine sM (k:=i) g2 ?_ ?_
         ·rw [←ho,List.getElem?_append_left (by simpa using hi')];simp [hi']
         ·rw [←hw,List.getElem?_append_left (by simpa using hi')];simp [hi']
def lW (E:Env) (R:Nat→RV) (O:Tab):ResultVar→Option RV
 | .tmp t=>some (R t)
 | .cell a ty=>match lM E O ty (R a) with
   | some res=>bif res.upd.isEmpty&&res.conds.isEmpty then some res.val else none
   | none=>none
def one (vs:List RV):RV:=
 match vs with
 | [v]=>v
 | _=>.bI vs
def finish (E:Env) (jr:Bool) (m:Nat) (rs:List ResultVar) (R:Nat→RV) (O:Tab):Option (RV×List au×List Bool):=
 match dO (lW E R O) rs with
 | none=>none
 | some vs=>match (bif jr then eD O vs else some (vs,[],[])) with
   | none=>none
   | some (vs1,u,c)=>
     let r:=one vs1
     let ps:=List.range m++(reach (aQ O u) 400 (r.refs 6++(List.range m).flatMap fun i=>rZ (aQ O u i)) []).filter (fun i=>Nat.ble m i)
     bif nodupB ps then
      match r.ren (fun i=>idx i ps 0) 6,dO (fun i=>match aQ O u i with | some p=>p.ren (fun i=>idx i ps 0) | none=>none) ps with
      | some r',some os=>some (r',os,c)
      | _,_=>none
     else none
theorem IX {κ:bn} {φ:bG} {w:World} {s:bP} {a:Act} (F:av κ φ w s a) {x:ResultVar} {v:RV} (h:lW (Env.of P) s.R s.O x=some v) :
 ∃u,((match x with
  | .tmp t=>pure (a.tmps.getD t undef)
  | .cell b t=>do loadVar t (←asAddr (a.tmps.getD b undef))):Sem Value).run P w = .ok u w∧bB κ φ s.O w.heap v u:=by
 cases x with
 | tmp t=>simp [lW] at h;subst h;exact ⟨_,rfl,F.regs t⟩
 | cell b t=>
   simp only [lW] at h;cases hx:lM (Env.of P) s.O t (s.R b) with
   | none=>rw [hx] at h;simp at h
   | some res=>
     rw [hx] at h;simp only at h;cases hg:(res.upd.isEmpty&&res.conds.isEmpty) with
     | false=>rw [hg] at h;simp at h
     | true=>
       rw [hg] at h;simp only [cond_true,Option.some.injEq] at h;subst h;simp only [Bool.and_eq_true,List.isEmpty_iff] at hg;obtain ⟨_,u,h1,h2⟩:=CV F hx (by rw [hg.2];simp) (F.regs b);refine ⟨u,?_,h2⟩
       have hp:∃ad,a.tmps.getD b undef = .pointer (some ad):=by
        have r:=F.regs b;unfold lM at hx;cases hz:(Env.of P).size t with
        | none=>rw [hz] at hx;simp at hx
        | some z=>
          rw [hz] at hx;generalize a.tmps.getD b undef=v at r;cases hR:s.R b<;>rw [hR] at hx r<;>(try simp only at hx)<;>(try (simp at hx;done))<;>(cases r;exact ⟨_,rfl⟩)
       obtain ⟨ad,hp⟩:=hp
       show (do loadVar t (←asAddr (a.tmps.getD b undef)):Sem Value).run P w = .ok u w
       rw [hp] at h1 ⊢;simpa [Instr.loadAt,Instr.sureAddr,asAddr] using h1
def IY (tmps:Array Value) (x:ResultVar):Sem Value:=
 match x with
 | .tmp t=>pure (tmps.getD t undef)
 | .cell a t=>do loadVar t (←asAddr (tmps.getD a undef))
theorem rC {κ:bn} {φ:bG} {w:World} {s:bP} {a:Act} (F:av κ φ w s a) (g:ResultVar→Sem Value) (hg1:∀t,g (.tmp t)=pure (a.tmps.getD t undef))
 (hg2:∀b t,g (.cell b t)=(do loadVar t (←asAddr (a.tmps.getD b undef)))):∀(rs:List ResultVar) (vs:List RV),dO (lW (Env.of P) s.R s.O) rs=some vs→
 ∃us:List Value,(rs.mapM g).run P w = .ok us w∧us.length=vs.length∧∀(i:Nat) (x:RV) (v:Value),vs[i]? = some x→us[i]? = some v→bB κ φ s.O w.heap x v
 | [],vs,h=>by simp [dO] at h;subst h;exact ⟨[],rfl,rfl,by simp⟩
 | x::rs,vs,h=>by
   simp only [dO] at h;cases h1:lW (Env.of P) s.R s.O x with
   | none=>rw [h1] at h;simp at h
   | some v=>
     cases h2:dO (lW (Env.of P) s.R s.O) rs with
     | none=>rw [h1,h2] at h;simp at h
     | some q=>
       rw [h1,h2] at h;simp at h;subst h;obtain ⟨u,e1,e2⟩:=IX F h1
       have e1' : (g x).run P w = .ok u w:=by
        cases x with
        | tmp t=>rw [hg1];exact e1
        | cell b t=>rw [hg2];exact e1
       obtain ⟨us,g1,g2,g3⟩:=rC F g hg1 hg2 rs q h2;refine ⟨u::us,?_,by simp [g2],fun i y w' hy hw=>?_⟩
       ·simp [List.mapM_cons,e1',g1]
       ·cases i with
        | zero=>simp at hy hw;subst hy;subst hw;exact e2
        | succ i=>exact g3 i y w' (by simpa using hy) (by simpa using hw)
theorem Kw {κ:bn} {φ:bG} {O:Tab} {h:Heap} {vs:List RV} {us:List Value} (hl:us.length=vs.length) (hr:∀(i:Nat) (x:RV) (v:Value),vs[i]? = some x→us[i]? = some v→bB κ φ O h x v) :
 bB κ φ O h (one vs) (if hh:us.toArray.size=1 then us.toArray[0] else .tuple us.toArray):=by
 cases vs with
 | nil=>
   have:us=[]:=List.eq_nil_of_length_eq_zero (by simpa using hl)
   subst this;simp only [one];exact .bI rfl (by simp)
 | cons v vs=>
   cases us with
   | nil=>simp at hl
   | cons u us=>
     cases vs with
     | nil=>
       have:us=[]:=List.eq_nil_of_length_eq_zero (by simpa using hl)
       subst this;simp only [one];exact hr 0 v u rfl rfl
     | cons v2 vs=>
       have hne:¬(u::us).toArray.size=1:=by simp at hl ⊢;intro e;subst e;simp at hl
       rw [dif_neg hne]
       show bB κ φ O h (.bI (v::v2::vs)) _
       exact .bI (by simpa using hl) (fun i x v hx hv=>hr i x v hx (by simpa using hv))
theorem qG {f:FuncId} {fn:Func} {c:Code} {args:Array Value} {w:World} {R:Ending→World→Prop}
 (hf:P.funcs[f]? = some fn) (hb:fn.body=some c)
 (h:∀(b:Frame) (cs:List Frame),∃e a' w',(e = .normal∨e = .ret)∧(a'.defers=[]∧∃v,(results fn a'.tmps).run P w' = .ok v w'∧R (.returned v) w')∧
   Arrives P (lone (b.at { tmps:=args++Array.replicate (fn.ntmps-args.size) undef,defers:=[] } [.code c]) cs w) b [] cs e a' w'):Calls P f args w R:=by
 intro cs
 let b:Frame:={ (default:Frame) with fn:=f,kind:=.normal }
 have henter:Frame.enter P f args .normal=b.at { tmps:=args++Array.replicate (fn.ntmps-args.size) undef,defers:=[] } [.code c]:=by
  simp [Frame.enter,Frame.at,hf,hb,b]
 obtain ⟨e,a',w',he,⟨hd,v,hr,hR⟩,harr⟩:=h b cs;rw [←henter] at harr;rcases he with rfl | rfl
 ·exact ⟨.returned v,w',_,hR,Steps.trans harr (.one step_end),rfl,rfl,hd,rfl,fn,hf,hr⟩
 ·obtain ⟨todo,hs⟩:=harr;exact ⟨.returned v,w',_,hR,hs,rfl,rfl,hd,rfl,fn,hf,hr⟩
theorem Oj {f:FuncId} {fn:Func} {body:Code} {args:List RV} {objs:List au} {jr:Bool} {Q:RV→List au→Prop} (hf:P.funcs[f]? = some fn) (hb:fn.body=some body) (hn:args.length≤fn.ntmps)
 (h:WK P objs.length [.code body] { n:=fn.ntmps,R:=fun t=>(args[t]?).getD .bot,O:=aN objs }
   (fun s=>s.df=[]∧∃r bJ c,finish (Env.of P) jr objs.length fn.results.toList s.R s.O=some (r,bJ,c)∧(∀b∈c,b=true)∧Q r bJ)):C P f args objs Q:=by
 intro κ φ w vs h1 h2 h3 h4;refine qG hf hb ?_
 have F:av κ φ w { n:=fn.ntmps,R:=fun t=>(args[t]?).getD .bot,O:=aN objs } { tmps:=vs++Array.replicate (fn.ntmps-vs.size) undef,defers:=[] }:=by
  refine ⟨fun t=>?_,h1,h2,by simp;omega,trivial⟩;by_cases ht:t < args.length
  ·have e1:args[t]? = some args[t]:=by simp [ht]
   have e2:vs[t]? = some vs[t]:=by simp [show t < vs.size by omega]
   have e3:(vs++Array.replicate (fn.ntmps-vs.size) undef).getD t undef=vs[t]:=by
    rw [Array.getD_eq_getD_getElem?,Array.getElem?_append_left (by omega),e2];rfl
   simp only [e1,Option.getD_some,e3];exact h4 t _ _ e1 e2
  ·have e1:args[t]? = none:=by simp;omega
   simp only [e1,Option.getD_none];exact .bot _
 intro b cs;obtain ⟨e,a',w',κ',φ',s',he,⟨hdf,r,bJ,c,hfin,hcs,hQ⟩,F',R',K',harr⟩:=h κ φ w _ F b cs;refine ⟨e,a',w',he,⟨(by have h0:=F'.df;rw [hdf] at h0;exact h0.nil),?_⟩,harr⟩;unfold finish at hfin;cases hres:dO (lW (Env.of P) s'.R s'.O) fn.results.toList with
 | none=>rw [hres] at hfin;simp at hfin
 | some Ky=>
   rw [hres] at hfin;simp only at hfin
   have hrun:∃us:List Value,(results fn a'.tmps).run P w' = .ok (if hh:us.toArray.size=1 then us.toArray[0] else .tuple us.toArray) w'∧us.length=Ky.length∧
    ∀(i:Nat) (x:RV) (v:Value),Ky[i]? = some x→us[i]? = some v→bB κ' φ' s'.O w'.heap x v:=by
    have hdef:results fn a'.tmps=(do
     let vs ←fn.results.mapM (IY a'.tmps)
     pure (if h:vs.size=1 then vs[0] else .tuple vs)):=by
     unfold results IY;rfl
    obtain ⟨us,u1,u2,u3⟩:=rC F' (IY a'.tmps) (fun _=>rfl) (fun _ _=>rfl) _ Ky hres;refine ⟨us,?_,u2,u3⟩;rw [hdef];simp only [Sem.run_bind];rw [Array.mapM_eq_mapM_toList];simp only [Sem.run_map];rw [u1];rfl
   obtain ⟨us,hrun,u2,u3⟩:=hrun;cases hp:(bif jr then eD s'.O Ky else some (Ky,[],[])) with
   | none=>rw [hp] at hfin;simp at hfin
   | some p3=>
     obtain ⟨vs1,u,cc⟩:=p3;rw [hp] at hfin;simp only at hfin;generalize hps:List.range objs.length++(reach (aQ s'.O u) 400 ((one vs1).refs 6++(List.range objs.length).flatMap fun i=>rZ (aQ s'.O u i)) []).filter (fun i=>Nat.ble objs.length i)=ps at hfin;cases hnd:nodupB ps with
     | false=>rw [hnd] at hfin;simp at hfin
     | true=>
       rw [hnd] at hfin;simp only [cond_true] at hfin;cases hr1:(one vs1).ren (fun i=>idx i ps 0) 6 with
       | none=>rw [hr1] at hfin;simp at hfin
       | some r'=>
         cases ho1:dO (fun i=>match aQ s'.O u i with | some p=>p.ren (fun i=>idx i ps 0) | none=>none) ps with
         | none=>rw [hr1,ho1] at hfin;simp at hfin
         | some os=>
           rw [hr1,ho1] at hfin;simp only [Option.some.injEq,Prod.mk.injEq] at hfin;obtain ⟨rfl,rfl,rfl⟩:=hfin
           have pre:∃κ1,av κ1 φ' w' { s' with O:=aQ s'.O u } a'∧dG κ' φ' s'.O w'.heap κ1 φ' (aQ s'.O u) w'.heap∧Fr κ' w' κ1 w'∧vs1.length=Ky.length∧
            ∀(i:Nat) (x:RV) (v:Value),vs1[i]? = some x→us[i]? = some v→bB κ1 φ' (aQ s'.O u) w'.heap x v:=by
            cases jr with
            | true=>
              simp only [cond_true] at hp;obtain ⟨κ1,q1,q2,q3,_,q5,q6⟩:=qV F' (jP.refl _) hp hcs (vs:=us) u2 u3;exact ⟨κ1,q1,q2,q3,q5,q6⟩
            | false=>
              simp only [cond_false,Option.some.injEq,Prod.mk.injEq] at hp;obtain ⟨rfl,rfl,rfl⟩:=hp;exact ⟨κ',F',dG.refl _ _ _ _,Fr.refl _ _,rfl,u3⟩
           obtain ⟨κ1,F1,M1,R1,l1,hv1⟩:=pre;have hone:=Kw (us:=us) (vs:=vs1) (by omega) hv1;obtain ⟨o1,o2⟩:=dJ _ ps os ho1
           let κ2:bn:=fun b=>match κ1 b with
            | .dA=>.dA
            | .own i=>match idx i ps 0 with | some j=>.own j | none=>.kr
            | .kr=>.kr
           let φ2:bG:=fun j=>match ps[j]? with | some i=>φ' i | none=>.un
           have nP:∀(i j:Nat),idx i ps 0=some j→ps[j]? = some i:=fun i j h=>by have:=(jS i ps 0 j h).2;simpa using this
           have nZ:∀(i j:Nat),ps[j]? = some i→idx i ps 0=some j:=fun i j h=>by
            obtain ⟨k,hk⟩:=jJ i ps 0 (List.mem_iff_getElem?.2 ⟨j,h⟩);rw [hk,iZ ps hnd k j i (nP i k hk) h]
           have iE:∀b,κ1 b = .dA→κ2 b = .dA:=fun b hb=>by simp only [κ2,hb]
           have hφ2:∀(i j:Nat),idx i ps 0=some j→φ' i≠.un→φ2 j=φ' i:=fun i j h _=>by simp only [φ2,nP i j h]
           have vw:∀(j i:Nat),ps[j]? = some i→∃p q,aQ s'.O u i=some p∧p.ren (fun i=>idx i ps 0)=some q∧os[j]? = some q:=by
            intro j i h;have hlt:=(List.getElem?_eq_some_iff.1 h).1;have hlt2:j < os.length:=by omega
            have hq:os[j]? = some os[j]:=by simp [hlt2]
            have:=o2 j i _ h hq
            cases e:aQ s'.O u i with
            | none=>simp only [e] at this;cases this
            | some p=>simp only [e] at this;exact ⟨p,_,rfl,this,hq⟩
           have mE:∀(i j n:Nat),idx i ps 0=some j→φ' i≠.un→au.cB (aN os j)=some n→au.cB (aQ s'.O u i)=some n:=by
            intro i j n h _ hn;obtain ⟨p,q,e1,e2,e3⟩:=vw j i (nP i j h);rw [e1,←BF e2];simp only [aN,e3] at hn;exact hn
           have first:∀i,i < objs.length→ps[i]? = some i:=fun i hi=>by
            rw [←hps,List.getElem?_append_left (by simpa using hi)];simp [hi]
           refine ⟨_,hrun,_,r',os,κ2,φ2,rfl,hQ,bB.ren (ρ:=fun i=>idx i ps 0) iE hφ2 mE 6 _ _ _ hr1 hone,fun j=>?_,F1.bnd.same (fun b e=>by simp only [κ2,e]) (fun b e=>by simp only [κ2,e]),?_,
            R'.trans (R1.trans ⟨Nat.le_refl _,fun b hb=>⟨iE b hb,rfl⟩,fun b _ hb=>⟨by simp only [κ2,hb],rfl⟩,fun _ c _ fz hc=>⟨c,fz,hc,rfl⟩,rfl,rfl⟩),⟨fun i hi=>?_,fun i n hi hn=>?_⟩⟩
           ·cases hj:ps[j]? with
            | none=>
              have:os[j]? = none:=by rw [List.getElem?_eq_none_iff] at hj ⊢;omega
              simp only [aN,this]
              show φ2 j = .un
              simp only [φ2,hj]
            | some i=>
              obtain ⟨p,q,e1,e2,e3⟩:=vw j i hj;simp only [aN,e3];have ho:=F1.objs i;simp only [e1] at ho;exact OR.ren (ρ:=fun i=>idx i ps 0) iE hφ2 mE (nZ i j hj) (fun b hb=>by simp only [κ2,hb,nZ i j hj]) e2 ho
           ·rw [o1,←hps];simp
           ·
            have hlt:i < objs.length:=by
             rcases Nat.lt_or_ge i objs.length with h | h
             ·exact h
             ·exfalso;apply hi
              have:=h1 i
              have e:aN objs i=none:=by simp only [aN];exact List.getElem?_eq_none h
              rw [e] at this;exact this
            simp only [φ2,first i hlt];exact K'.phi i hlt hi
           ·have hlt:i < objs.length:=by
             rcases Nat.lt_or_ge i objs.length with h | h
             ·exact h
             ·exfalso;apply hi
              have:=h1 i
              have e:aN objs i=none:=by simp only [aN];exact List.getElem?_eq_none h
              rw [e] at this;exact this
            have h2' : φ' i≠.un:=by rw [K'.phi i hlt hi];exact hi
            have:=mE i i n (nZ i i (first i hlt)) h2' hn
            exact K'.len i n hlt hi (M1.len i n h2' this)
def T.Vq {α:Type}:Nat→List α→T α
 | _,[]=>.nil
 | k,x::r=>(T.Vq (k+1) r).set k (some x)
theorem T.BH {α:Type}:∀(l:List α) (k i:Nat),k+l.length≤65000→(T.Vq k l).get i=if i < k then none else l[i-k]?
 | [],k,i,_=>by simp [T.Vq,T.get]
 | x::r,k,i,h=>by
   simp only [List.length_cons] at h;simp only [T.Vq];by_cases e:i=k
   ·subst e;rw [T.get_set_same _ (by omega),if_neg (by omega)];simp
   ·rw [T.cu _ e,T.BH r (k+1) i (by omega)];by_cases h1:i < k
    ·rw [if_pos (by omega),if_pos h1]
    ·rw [if_neg (by omega),if_neg h1,show i-k=(i-(k+1))+1 by omega];rfl
def dY (n:Nat) (args:List RV) (objs:List au):jB:={ n:=n,m:=objs.length,regs:=T.Vq 0 args,objs:=T.Vq 0 objs }
theorem aY {f:FuncId} {fn:Func} {body:Code} {args:List RV} {objs:List au} (jr:Bool) {Q:RV→List au→Prop} (hf:P.funcs[f]? = some fn) (hb:fn.body=some body)
 (hn:(Nat.ble args.length fn.ntmps&&Nat.ble args.length 60000&&Nat.ble objs.length 60)=true)
 (h:WK P objs.length [.code body] (dY fn.ntmps args objs).den
   (fun s=>s.df=[]∧∃r bJ c,finish (Env.of P) jr objs.length fn.results.toList s.R s.O=some (r,bJ,c)∧(∀b∈c,b=true)∧Q r bJ)):C P f args objs Q:=by
 simp only [Bool.and_eq_true] at hn;have h1:=Nat.le_of_ble_eq_true hn.1.1;have h2:=Nat.le_of_ble_eq_true hn.1.2;have h3:=Nat.le_of_ble_eq_true hn.2;refine Oj (jr:=jr) hf hb h1 ?_
 have e:(dY fn.ntmps args objs).den = { n:=fn.ntmps,R:=fun t=>(args[t]?).getD .bot,O:=aN objs }:=by
  simp only [dY,jB.den];congr 1
  ·funext t;unfold aX;rw [T.BH _ _ _ (by omega)];simp only [Nat.not_lt_zero,if_false,Nat.sub_zero];cases args[t]?<;>rfl
  ·funext i;rw [T.BH _ _ _ (by omega)];simp [aN]
 rw [←e];exact h
def stacks:Code→List It→List (List It)
 | .seq x y,k=>stacks x (.code y::k)++stacks y k
 | .cond _ x y,k=>stacks x k++stacks y k
 | .block id b,k=>stacks b (.blk id::k)
 | .loop b,k=>(.code b :: .lp b::k)::stacks b (.lp b::k)
 | .scope b,k=>stacks b (.scp b::k)
 | _,_=>[]
def aC (body:Code) (i:Nat):List It:=(stacks body []).getD i []
def Q7:List Bool→Prop
 | []=>True
 | c::r=>c=true∧Q7 r
def Q8:List (RV×RV)→Prop
 | []=>True
 | (x,y)::r=>ji x y∧Q8 r
theorem Q7.all:∀{l:List Bool},Q7 l→∀c∈l,c=true
 | [],_,c,h=>by simp at h
 | x::r,⟨h1,h2⟩,c,h=>by
   rcases List.mem_cons.1 h with rfl | h
   ·exact h1
   ·exact Q7.all h2 c h
theorem Q8.all:∀{l:List (RV×RV)},Q8 l→∀e∈l,ji e.1 e.2
 | [],_,e,h=>by simp at h
 | (x,y)::r,⟨h1,h2⟩,e,h=>by
   rcases List.mem_cons.1 h with rfl | h
   ·exact h1
   ·exact Q8.all h2 e h
theorem ah {a b:Bool} (h:a=b):ji (.d (.bool a)) (.d (.bool b)):=.of_eq (by rw [h])
def BI (cf:dK) (n l:Nat) (ov:Ov) (p:Post) (k:List It) (st:jB):Option (List It×jB×List Bool×List (RV×RV)):=
 match drive cf ov n l k { st:=st,cs:=[],es:=[] } with
 | some (k',ac)=>match k' with
   | []=>none
   | _::_=>match xL p ac.st with
     | some st'=>some (k',st',ac.cs,ac.es)
     | none=>none
 | none=>none
def aA (cf:dK) (jr:Bool) (rs:List ResultVar) (n l:Nat) (ov:Ov) (k:List It) (st:jB):Option (RV×List au×List Bool×List (RV×RV)):=
 match drive cf ov n l k { st:=st,cs:=[],es:=[] } with
 | some (k',ac)=>match k' with
   | []=>match finish cf.E jr ac.st.m rs (aX ac.st.regs) ac.st.objs.get with
     | some (r,o,c)=>some (r,o,ac.cs++c,ac.es)
     | none=>none
   | _::_=>none
 | none=>none
theorem gK {cf:dK} {ov:Ov}:∀(n l:Nat) (k k' : List It) (ac jd : Acc),drive cf ov n l k ac=some (k',jd)→jd.st.m=ac.st.m
 | 0,_,_,_,_,_,h=>by simp [drive] at h
 | n+1,l,k,k',ac,jd,h=>by
   have base:∀{k k' : List It} {a a' : Acc},some (k,a)=some (k',a')→a'.st.m=a.st.m:=by
    intro k k' a a' h;injection h with h;injection h with h1 h2;subst h2;rfl
   unfold drive at h;split at h
   ·exact base h
   ·exact gK n l _ _ _ _ h
   ·exact gK n l _ _ _ _ h
   ·split at h
    ·exact base h
    ·exact gK n _ _ _ _ _ h
   ·split at h
    ·exact gK n l _ _ _ _ h
    ·exact gK n l _ _ _ _ h
    ·split at h
     ·rename_i a1 hs
      have:=(qF hs).2.2.1
      rw [gK n l _ _ _ _ h,this]
     ·simp at h
    ·split at h
     ·split at h<;>exact gK n l _ _ _ _ h
     ·simp at h
    ·exact gK n l _ _ _ _ h
    ·split at h
     ·exact base h
     ·exact gK n _ _ _ _ _ h
    ·split at h
     ·exact gK n l _ _ _ _ h
     ·simp at h
    ·exact base h
    ·exact gK n l _ _ _ _ h
    ·exact gK n l _ _ _ _ h
    ·simp at h
structure Ok (P:Program) (cf:dK):Prop where
 cf:jh P cf
 mix:P.follows .mixedOrders=true
theorem WK.seg {cf:dK} (hok:Ok P cf) {m:Nat} {st st' : jB} {k k' : List It} {Q:bP→Prop} (n l:Nat) (ov:Ov) (p:Post) (cs:List Bool) (es:List (RV×RV)) (hm:st.m=m)
 (h:BI cf n l ov p k st=some (k',st',cs,es)) (hc:Q7 cs) (he:Q8 es) (hk:WK P m k' st'.den Q):WK P m k st.den Q:=by
 subst hm;unfold BI at h;split at h
 ·rename_i k1 ac hd;split at h
  ·simp at h
  ·rename_i x k1;cases hp:xL p ac.st with
   | none=>rw [hp] at h;simp at h
   | some s1=>
     rw [hp] at h;simp only [Option.some.injEq,Prod.mk.injEq] at h;obtain ⟨rfl,rfl,rfl,rfl⟩:=h;have hm1:=gK _ _ _ _ _ _ hd;refine eZ hok.cf hok.mix n l k _ { st:=st,cs:=[],es:=[] } ac hd hc.all he.all (fun e=>by simp at e) (fun _=>?_);rw [←hm1];refine IW hp ?_;rw [hm1];exact hk
 ·simp at h
theorem WK.fin {cf:dK} (hok:Ok P cf) {m:Nat} {st:jB} {k:List It} {rs:List ResultVar} {jr:Bool} {Q:RV→List au→Prop} (n l:Nat) (ov:Ov) {r:RV} {o:List au} (cs:List Bool) (es:List (RV×RV)) (hm:st.m=m)
 (h:aA cf jr rs n l ov k st=some (r,o,cs,es)) (hc:Q7 cs) (he:Q8 es) (hQ:Q r o) :
 WK P m k st.den (fun s=>s.df=[]∧∃r bJ c,finish (Env.of P) jr m rs s.R s.O=some (r,bJ,c)∧(∀b∈c,b=true)∧Q r bJ):=by
 subst hm;unfold aA at h;split at h
 ·rename_i k1 ac hd;split at h
  ·rw [hok.cf.E] at h;cases hf:finish (Env.of P) jr ac.st.m rs (aX ac.st.regs) ac.st.objs.get with
   | none=>rw [hf] at h;simp at h
   | some p=>
     obtain ⟨r',o',c'⟩:=p;rw [hf] at h;simp only [Option.some.injEq,Prod.mk.injEq] at h;obtain ⟨rfl,rfl,rfl,rfl⟩:=h;have hm1:=gK _ _ _ _ _ _ hd;refine eZ hok.cf hok.mix n l k _ { st:=st,cs:=[],es:=[] } ac hd (fun c hcc=>hc.all c (by simp [hcc])) he.all (fun _=>?_) (fun e=>by simp at e);rw [←hm1];exact ⟨rfl,r',o',c',hf,fun b hb=>hc.all b (by simp [hb]),hQ⟩
  ·simp at h
 ·simp at h
theorem WK.rec' {m:Nat} {k:List It} {Q:bP→Prop} {σ:Type} (S:σ→jB) (inv:σ→Prop) (μ:σ→Nat)
 (round:∀y,inv y→(∀z,inv z→μ z < μ y→WK P m k (S z).den Q)→WK P m k (S y).den Q):∀y,inv y→WK P m k (S y).den Q:=by
 have key:∀n y,μ y=n→inv y→WK P m k (S y).den Q:=by
  intro n;induction n using Nat.strongRecOn with
  | _ n ih=>exact fun y hn hy=>round y hy fun z hz hlt=>ih (μ z) (hn▸hlt) z rfl hz
 exact fun y hy=>key _ y rfl hy
def rD:Nat→RV→List Nat
 | 0,_=>[]
 | d+1,v=>match v with
   | .ptr i _=>[i]
   | .gq i _ _ _=>[i]
   | .own i _=>[i]
   | .sub i _ _ _=>[i]
   | .sl i _ _ _ _=>[i]
   | .map i=>[i]
   | .fM _ f c=>f.flatMap (rD d)++c.flatMap (rD d)
   | .agg cs=>cs.flatMap (rD d)
   | .bI vs=>vs.flatMap (rD d)
   | _=>[]
def Q9:Option au→List Nat
 | some (.box _ cs)=>cs.flatMap (rD 6)
 | some (.bL _ cs)=>cs.flatMap (rD 6)
 | some (.Nv m)=>[m]
 | _=>[]
def Fu (O:T au):Nat→List Nat→List Nat→List Nat
 | 0,_,seen=>seen
 | _+1,[],seen=>seen
 | f+1,i::r,seen=>bif seen.any (Nat.beq i) then Fu O f r seen else Fu O f (r++Q9 (O.get i)) (seen++[i])
def GQ (nV:List (Nat×Nat×Nat×Nat)) (live:List Nat) (st:jB):Post:=
 let olds:=(Fu st.objs 300 (live.flatMap fun t=>rD 6 (aX st.regs t)) []).filter (fun i=>Nat.ble st.m i)
 { nV:=nV,live:=live,olds:=olds,lG:=(List.range olds.length).map (200 + ·) }
def bg (cf:dK) (n l:Nat) (ov:Ov) (nV:List (Nat×Nat×Nat×Nat)) (live:List Nat) (k:List It) (st:jB):Option (List It×jB×List Bool×List (RV×RV)):=
 match drive cf ov n l k { st:=st,cs:=[],es:=[] } with
 | some (k',ac)=>match k' with
   | []=>none
   | _::_=>match oF nV ac.st with
     | some s1=>match BG (GQ nV live s1) s1 with
       | some st'=>some (k',st',ac.cs,ac.es)
       | none=>none
     | none=>none
 | none=>none
theorem DF {cf:dK} {n l:Nat} {ov:Ov} {nV:List (Nat×Nat×Nat×Nat)} {live:List Nat} {k:List It} {st:jB} {x:List It×jB×List Bool×List (RV×RV)}
 (h:bg cf n l ov nV live k st=some x):∃p,BI cf n l ov p k st=some x:=by
 unfold bg at h;split at h
 ·rename_i k1 ac hd;split at h
  ·simp at h
  ·rename_i y k1;cases hn:oF nV ac.st with
   | none=>rw [hn] at h;simp at h
   | some s1=>
     rw [hn] at h;simp only at h;cases hk:BG (GQ nV live s1) s1 with
     | none=>rw [hk] at h;simp at h
     | some st'=>
       rw [hk] at h;refine ⟨GQ nV live s1,?_⟩;unfold BI;rw [hd];simp only [xL]
       have:(GQ nV live s1).nV=nV:=rfl
       rw [this,hn];simp only [hk];exact h
 ·simp at h
theorem WK.dZ {cf:dK} (hok:Ok P cf) {m:Nat} {st st' : jB} {k k' : List It} {Q:bP→Prop} (n l:Nat) (ov:Ov) (nV:List (Nat×Nat×Nat×Nat)) (live:List Nat) (cs:List Bool) (es:List (RV×RV)) (hm:st.m=m)
 (h:bg cf n l ov nV live k st=some (k',st',cs,es)) (hc:Q7 cs) (he:Q8 es) (hk:WK P m k' st'.den Q):WK P m k st.den Q:=
 let ⟨p,hp⟩:=DF h
 WK.seg hok n l ov p cs es hm hp hc he hk
end Go.Am
