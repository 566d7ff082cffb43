/-
  Texts that the claim leans on: AmOp, AmRun, AmWk, AmDraw.
-/
import Derived.Test.YtjoefbioobdinaaGreatDoorrd
import Derived.Scope
namespace Go.Am
set_option linter.unusedSectionVars false
variable {P:Program} [Gl]
def Lu:RV→Bool
 | .own _ _=>true
 | .sub _ _ _ _=>true
 | _=>false
def iZ (O:Tab) (v:RV):Option (RV×List (Nat×ay)×List Bool):=
 bif Lu v then match iq O v with
  | some (x,u,c)=>some (.d x,u,c)
  | none=>none
 else some (v,[],[])
def fU (O:Tab):List RV→Option (List RV×List (Nat×ay)×List Bool)
 | []=>some ([],[],[])
 | v::r=>match iZ O v,fU O r with
   | some (x,u,c),some (l,u',c')=>some (x::l,u++u',c++c')
   | _,_=>none
def mQ (O:Tab):RV→Option (RV×List (Nat×ay)×List Bool)
 | .agg cs=>match fU O cs with
   | some (l,u,c)=>some (qZ l,u,c)
   | none=>none
 | v=>iZ O v
def fD (O:Tab):List RV→Option (List RV×List (Nat×ay)×List Bool)
 | []=>some ([],[],[])
 | v::r=>match mQ O v,fD O r with
   | some (x,u,c),some (l,u',c')=>some (x::l,u++u',c++c')
   | _,_=>none
theorem wG {κ:bB} {φ:bJ} {w:World} {s:bQ} {a:Act} (F:aC κ φ w s a) {O0:Tab} (hf:kG O0 s.O) {x y:RV} {v:Value}
 {u:List (Nat×ay)} {c:List Bool} (hx:iZ O0 x=some (y,u,c)) (hc:∀b∈c,b=true) (r:bE κ φ s.O w.heap x v) :
 ∃κ',aC κ' φ w { s with O:=aV s.O u } a∧dW κ φ s.O w.heap κ' φ (aV s.O u) w.heap∧Fr κ w κ' w∧kG O0 (aV s.O u)∧bE κ' φ (aV s.O u) w.heap y v:=by
 unfold iZ at hx;cases ho:Lu x with
 | false=>
   rw [ho] at hx;simp only [cond_false,Option.some.injEq,Prod.mk.injEq] at hx;obtain ⟨rfl,rfl,rfl⟩:=hx;exact ⟨κ,F,dW.refl _ _ _ _,Fr.refl _ _,hf,r⟩
 | true=>
   rw [ho] at hx;simp only [cond_true] at hx;cases ht:iq O0 x with
   | none=>rw [ht] at hx;simp at hx
   | some p=>
     obtain ⟨d,u',c'⟩:=p;rw [ht] at hx;simp only [Option.some.injEq,Prod.mk.injEq] at hx;obtain ⟨rfl,rfl,rfl⟩:=hx;obtain ⟨κ',h1,h2,h3,h4,h5⟩:=uS F hf ht hc r;exact ⟨κ',h1,h2,h3,h4,.d h5⟩
theorem Ck {O0:Tab}:∀{κ:bB} {φ:bJ} {w:World} {s:bQ} {a:Act} (_:aC κ φ w s a) (_:kG O0 s.O) {xs ys:List RV} {vs:List Value}
 {u:List (Nat×ay)} {c:List Bool} (_:fU O0 xs=some (ys,u,c)) (_:∀b∈c,b=true) (_:vs.length=xs.length)
 (_:∀(i:Nat) (x:RV) (v:Value),xs[i]? = some x→vs[i]? = some v→bE κ φ s.O w.heap x v),
 ∃κ',aC κ' φ w { s with O:=aV s.O u } a∧dW κ φ s.O w.heap κ' φ (aV s.O u) w.heap∧Fr κ w κ' w∧kG O0 (aV s.O u)∧
  ys.length=xs.length∧∀(i:Nat) (y:RV) (v:Value),ys[i]? = some y→vs[i]? = some v→bE κ' φ (aV s.O u) w.heap y v:=by
 intro κ φ w s a F hf xs;induction xs generalizing κ s with
 | nil=>
   intro ys vs u c hx _ _ _;simp only [fU,Option.some.injEq,Prod.mk.injEq] at hx;obtain ⟨rfl,rfl,rfl⟩:=hx;exact ⟨κ,F,dW.refl _ _ _ _,Fr.refl _ _,hf,rfl,by simp⟩
 | cons x xs ih=>
   intro ys vs u c hx hc hl hr;simp only [fU] at hx;cases h1:iZ O0 x with
   | none=>rw [h1] at hx;simp at hx
   | some p1=>
     obtain ⟨y,u1,c1⟩:=p1;cases h2:fU O0 xs with
     | none=>rw [h1,h2] at hx;simp at hx
     | some p2=>
       obtain ⟨l,u2,c2⟩:=p2;rw [h1,h2] at hx;simp only [Option.some.injEq,Prod.mk.injEq] at hx;obtain ⟨rfl,rfl,rfl⟩:=hx;cases vs with
       | nil=>simp at hl
       | cons v vs=>
         obtain ⟨κ1,F1,M1,R1,f1,d1⟩:=wG F hf h1 (fun b hb=>hc b (by simp [hb])) (hr 0 x v rfl rfl)
         obtain ⟨κ2,F2,M2,R2,f2,l2,d2⟩:=ih F1 f1 h2 (fun b hb=>hc b (by simp [hb])) (vs:=vs) (by simpa using hl)
          (fun i x' v' hx' hv'=>(hr (i+1) x' v' (by simpa using hx') (by simpa using hv')).mono M1)
         refine ⟨κ2,?_,?_,R1.trans R2,?_,by simp [l2],?_⟩
         ·rw [bF];exact F2
         ·rw [bF];exact M1.trans M2
         ·rw [bF];exact f2
         ·rw [bF];intro i y' v' hy' hv';cases i with
          | zero=>simp at hy' hv';subst hy';subst hv';exact d1.mono M2
          | succ i=>exact d2 i y' v' (by simpa using hy') (by simpa using hv')
theorem JI {κ:bB} {φ:bJ} {w:World} {s:bQ} {a:Act} (F:aC κ φ w s a) {O0:Tab} (hf:kG O0 s.O) {x y:RV} {v:Value}
 {u:List (Nat×ay)} {c:List Bool} (hx:mQ O0 x=some (y,u,c)) (hc:∀b∈c,b=true) (r:bE κ φ s.O w.heap x v) :
 ∃κ',aC κ' φ w { s with O:=aV s.O u } a∧dW κ φ s.O w.heap κ' φ (aV s.O u) w.heap∧Fr κ w κ' w∧kG O0 (aV s.O u)∧bE κ' φ (aV s.O u) w.heap y v:=by
 by_cases hag:∃cs,x = .agg cs
 ·obtain ⟨cs,rfl⟩:=hag;simp only [mQ] at hx;cases h1:fU O0 cs with
  | none=>rw [h1] at hx;simp at hx
  | some p=>
    obtain ⟨l,u1,c1⟩:=p;rw [h1] at hx;simp only [Option.some.injEq,Prod.mk.injEq] at hx;obtain ⟨rfl,rfl,rfl⟩:=hx;cases r with
    | agg hl hs hr=>
      rename_i vs;obtain ⟨κ',h2,h3,h4,h5,h6,h8⟩:=Ck F hf h1 hc (vs:=vs.toList) (by simpa using hl) (fun i x v hx hv=>hr i x v hx (by simpa using hv));exact ⟨κ',h2,h3,h4,h5,nu (by omega) hs (fun i y v hy hv=>h8 i y v hy (by simpa using hv))⟩
 ·have:mQ O0 x=iZ O0 x:=by cases x<;>first | rfl | exact absurd ⟨_,rfl⟩ hag
  rw [this] at hx;exact wG F hf hx hc r
theorem rW {O0:Tab}:∀{κ:bB} {φ:bJ} {w:World} {s:bQ} {a:Act} (_:aC κ φ w s a) (_:kG O0 s.O) {xs ys:List RV} {vs:List Value}
 {u:List (Nat×ay)} {c:List Bool} (_:fD O0 xs=some (ys,u,c)) (_:∀b∈c,b=true) (_:vs.length=xs.length)
 (_:∀(i:Nat) (x:RV) (v:Value),xs[i]? = some x→vs[i]? = some v→bE κ φ s.O w.heap x v),
 ∃κ',aC κ' φ w { s with O:=aV s.O u } a∧dW κ φ s.O w.heap κ' φ (aV s.O u) w.heap∧Fr κ w κ' w∧kG O0 (aV s.O u)∧
  ys.length=xs.length∧∀(i:Nat) (y:RV) (v:Value),ys[i]? = some y→vs[i]? = some v→bE κ' φ (aV s.O u) w.heap y v:=by
 intro κ φ w s a F hf xs;induction xs generalizing κ s with
 | nil=>
   intro ys vs u c hx _ _ _;simp only [fD,Option.some.injEq,Prod.mk.injEq] at hx;obtain ⟨rfl,rfl,rfl⟩:=hx;exact ⟨κ,F,dW.refl _ _ _ _,Fr.refl _ _,hf,rfl,by simp⟩
 | cons x xs ih=>
   intro ys vs u c hx hc hl hr;simp only [fD] at hx;cases h1:mQ O0 x with
   | none=>rw [h1] at hx;simp at hx
   | some p1=>
     obtain ⟨y,u1,c1⟩:=p1;cases h2:fD O0 xs with
     | none=>rw [h1,h2] at hx;simp at hx
     | some p2=>
       obtain ⟨l,u2,c2⟩:=p2;rw [h1,h2] at hx;simp only [Option.some.injEq,Prod.mk.injEq] at hx;obtain ⟨rfl,rfl,rfl⟩:=hx;cases vs with
       | nil=>simp at hl
       | cons v vs=>
         obtain ⟨κ1,F1,M1,R1,f1,d1⟩:=JI F hf h1 (fun b hb=>hc b (by simp [hb])) (hr 0 x v rfl rfl)
         obtain ⟨κ2,F2,M2,R2,f2,l2,d2⟩:=ih F1 f1 h2 (fun b hb=>hc b (by simp [hb])) (vs:=vs) (by simpa using hl)
          (fun i x' v' hx' hv'=>(hr (i+1) x' v' (by simpa using hx') (by simpa using hv')).mono M1)
         refine ⟨κ2,?_,?_,R1.trans R2,?_,by simp [l2],?_⟩
         ·rw [bF];exact F2
         ·rw [bF];exact M1.trans M2
         ·rw [bF];exact f2
         ·rw [bF];intro i y' v' hy' hv';cases i with
          | zero=>simp at hy' hv';subst hy';subst hv';exact d1.mono M2
          | succ i=>exact d2 i y' v' (by simpa using hy') (by simpa using hv')
def RV.refs:Nat→RV→List Nat
 | 0,_=>[]
 | n+1,x=>
   match x with
   | .ptr i _=>[i]
   | .gQ i _ _ _=>[i]
   | .own i _=>[i]
   | .sub i _ _ _=>[i]
   | .sl i _ _ _ _=>[i]
   | .map i=>[i]
   | .gG _ fs cs=>fs.flatMap (RV.refs n)++cs.flatMap (RV.refs n)
   | .agg cs=>cs.flatMap (RV.refs n)
   | .aZ cs=>cs.flatMap (RV.refs n)
   | _=>[]
def tF:Option ay→List Nat
 | some (.box _ cs)=>cs.flatMap (RV.refs 6)
 | some (.bO _ cs)=>cs.flatMap (RV.refs 6)
 | some (.OC m)=>[m]
 | _=>[]
def reach (O:Tab):Nat→List Nat→List Nat→List Nat
 | 0,_,done=>done
 | _,[],done=>done
 | n+1,i::todo,done=>bif done.any (fun j=>Nat.beq j i) then reach O n todo done else reach O n (todo++tF (O i)) (done++[i])
def news (sl n:Nat):List Nat:=(List.range n).map (sl + ·)
abbrev uI:=Nat→List RV→List ay→Option (RV×List ay×List Bool)
def aX (P:Program) (K:uI):Prop:=∀f args objs r bL c,K f args objs=some (r,bL,c)→(∀b∈c,b=true)→C P f args objs (fun r2 o2=>r2=r∧o2=bL)
def iy (K:uI) (dw:Bool) (O:Tab) (sl f:Nat) (args:List RV):Option cB:=
 match (bif dw then some (args,[],[]) else fD O args) with
 | none=>none
 | some (args1,u,c)=>
   let ps:=reach (aV O u) 400 (args1.flatMap (RV.refs 6)) []
   match eX (RV.ren (fun i=>idx i ps 0) 6) args1,eX (fun i=>match aV O u i with | some p=>p.ren (fun i=>idx i ps 0) | none=>none) ps with
   | some args2,some objs=>match K f args2 objs with
     | some (r,bL,c2)=>
       let nw:=news sl (bL.length-ps.length)
       bif nodupB ps&&nodupB (ps++nw)&&Nat.ble ps.length bL.length&&nw.all (fun i=>(aV O u i).isNone) then
        match eX (ay.ren (fun j=>(ps++nw)[j]?)) bL,RV.ren (fun j=>(ps++nw)[j]?) 6 r with
        | some fH,some r''=>some { val:=r'',upd:=u++tq (ps++nw) fH,conds:=c++c2 }
        | _,_=>none
       else none
     | none=>none
   | _,_=>none
theorem yC {κ:bB} {φ:bJ} {w:World} {s:bQ} {a:Act} (F:aC κ φ w s a) {K:uI} (hK:aX P K) {dw:Bool} {sl f:Nat} {args:List RV} {vs:Array Value} {res:cB}
 (hx:iy K dw s.O sl f args=some res) (hc:∀b∈res.conds,b=true) (hl:vs.size=args.length)
 (hr:∀(i:Nat) (x:RV) (v:Value),args[i]? = some x→vs[i]? = some v→bE κ φ s.O w.heap x v) :
 Calls P f vs w fun e w'=>∃v κ' φ',e = .returned v∧aC κ' φ' w' { s with O:=aV s.O res.upd } a∧bE κ' φ' (aV s.O res.upd) w'.heap res.val v∧Fr κ w κ' w'∧Kp φ s.O φ' (aV s.O res.upd):=by
 unfold iy at hx;cases hp:(bif dw then some (args,[],[]) else fD s.O args) with
 | none=>rw [hp] at hx;simp at hx
 | some p3=>
   obtain ⟨args1,u,c⟩:=p3;rw [hp] at hx;simp only at hx;generalize hps:reach (aV s.O u) 400 (args1.flatMap (RV.refs 6)) []=ps at hx;cases h1:eX (RV.ren (fun i=>idx i ps 0) 6) args1 with
   | none=>rw [h1] at hx;simp at hx
   | some args2=>
     cases h2:eX (fun i=>match aV s.O u i with | some p=>p.ren (fun i=>idx i ps 0) | none=>none) ps with
     | none=>rw [h1,h2] at hx;simp at hx
     | some objs=>
       rw [h1,h2] at hx;simp only at hx;cases h3:K f args2 objs with
       | none=>rw [h3] at hx;simp at hx
       | some q3=>
         obtain ⟨r,bL,c2⟩:=q3;rw [h3] at hx;simp only at hx;cases hg:(nodupB ps&&nodupB (ps++news sl (bL.length-ps.length))&&Nat.ble ps.length bL.length&&(news sl (bL.length-ps.length)).all (fun i=>(aV s.O u i).isNone)) with
         | false=>rw [hg] at hx;simp at hx
         | true=>
           rw [hg] at hx;simp only [cond_true] at hx;simp only [Bool.and_eq_true] at hg;obtain ⟨⟨⟨g0,g1⟩,g2⟩,g3⟩:=hg;have g2:=Nat.le_of_ble_eq_true g2;cases h4:eX (ay.ren (fun j=>(ps++news sl (bL.length-ps.length))[j]?)) bL with
           | none=>rw [h4] at hx;simp at hx
           | some fH=>
             cases h5:RV.ren (fun j=>(ps++news sl (bL.length-ps.length))[j]?) 6 r with
             | none=>rw [h4,h5] at hx;simp at hx
             | some r''=>
               rw [h4,h5] at hx;simp only [Option.some.injEq] at hx;subst hx;simp only at hc
               have pre:∃κ1,aC κ1 φ w { s with O:=aV s.O u } a∧dW κ φ s.O w.heap κ1 φ (aV s.O u) w.heap∧Fr κ w κ1 w∧args1.length=args.length∧
                ∀(i:Nat) (x:RV) (v:Value),args1[i]? = some x→vs[i]? = some v→bE κ1 φ (aV s.O u) w.heap x v:=by
                cases dw with
                | true=>
                  simp only [cond_true,Option.some.injEq,Prod.mk.injEq] at hp;obtain ⟨rfl,rfl,rfl⟩:=hp;exact ⟨κ,F,dW.refl _ _ _ _,Fr.refl _ _,rfl,hr⟩
                | false=>
                  simp only [cond_false] at hp;obtain ⟨κ1,q1,q2,q3,_,q5,q6⟩:=rW F (kG.refl _) hp (fun b hb=>hc b (by simp [hb])) (vs:=vs.toList) (by simpa using hl) (fun i x v hx hv=>hr i x v hx (by simpa using hv));exact ⟨κ1,q1,q2,q3,q5,fun i x v hx hv=>q6 i x v hx (by simpa using hv)⟩
               obtain ⟨κ1,F1,M1,R1,l1,hr1⟩:=pre;have hC:=hK f args2 objs r bL c2 h3 (fun b hb=>hc b (by simp [hb]));refine (Jz F1 (ps:=ps) g0 h1 h2 hC (by omega) hr1).mono ?_
               rintro e w' ⟨v,r',o',rfl,⟨rfl,rfl⟩,hle,hfin⟩
               have hnl:(news sl (o'.length-ps.length)).length=o'.length-ps.length:=by simp [news]
               obtain ⟨κ',φ',f1,f2,f3,f4⟩:=hfin (ps++news sl (o'.length-ps.length)) r'' fH (by rw [List.length_append,hnl];omega) g1 (by simp)
                (fun i hi=>by
                  rw [List.drop_left] at hi
                  have:=List.all_eq_true.1 g3 i hi
                  simpa using this) h4 h5
               exact ⟨v,κ',φ',rfl,by rw [bF];exact f1,by rw [bF];exact f2,R1.trans f3,by rw [bF];exact M1.kp.trans f4⟩
def qp (diff:Bool) (K:uI) (dw:Bool) (O:Tab) (sl f:Nat) (args:List RV):Option cB:=
 match diff with
 | false=>iy K dw O sl f args
 | true=>match iy K dw O sl f args with
   | some res=>bif nodupB (res.upd.map (·.1)) then some { res with upd:=nJ O res.upd } else none
   | none=>none
theorem Lv {κ:bB} {φ:bJ} {w:World} {s:bQ} {a:Act} (F:aC κ φ w s a) {K:uI} (hK:aX P K) {diff dw:Bool} {sl f:Nat} {args:List RV} {vs:Array Value} {res:cB}
 (hx:qp diff K dw s.O sl f args=some res) (hc:∀b∈res.conds,b=true) (hl:vs.size=args.length)
 (hr:∀(i:Nat) (x:RV) (v:Value),args[i]? = some x→vs[i]? = some v→bE κ φ s.O w.heap x v) :
 Calls P f vs w fun e w'=>∃v κ' φ',e = .returned v∧aC κ' φ' w' { s with O:=aV s.O res.upd } a∧bE κ' φ' (aV s.O res.upd) w'.heap res.val v∧Fr κ w κ' w'∧Kp φ s.O φ' (aV s.O res.upd):=by
 unfold qp at hx;cases diff with
 | false=>exact yC F hK hx hc hl hr
 | true=>
   simp only at hx;cases h:iy K dw s.O sl f args with
   | none=>rw [h] at hx;simp at hx
   | some r0=>
     rw [h] at hx;simp only at hx;cases hn:nodupB (r0.upd.map (·.1)) with
     | false=>rw [hn] at hx;simp at hx
     | true=>
       rw [hn] at hx;simp only [cond_true,Option.some.injEq] at hx;subst hx
       have:=yC F hK h hc hl hr
       simp only [zK hn];exact this
def eY (P:Program) (f:Nat):Bool:=
 match P.funcs[f]? with
 | some fn=>fn.body.isSome&&(fn.name != "runtime.NumGoroutine")
 | none=>false
theorem tH {f:Nat} (h:eY P f=true) (vs:Array Value) (w:World):(callFunc f vs).run P w = .ok (.enter f vs) w:=by
 unfold eY at h;cases hf:P.funcs[f]? with
 | none=>rw [hf] at h;simp at h
 | some fn=>
   rw [hf] at h;simp only [Bool.and_eq_true,bne_iff_ne] at h;simp only [callFunc,Sem.run_bind,run_program,Result.andThen_ok,hf];have h1:(fn.name == "runtime.NumGoroutine")=false:=by simpa using h.2
   have h2:fn.body.isNone=false:=by cases e:fn.body<;>simp_all
   simp [h1,h2]
structure eu where
 E:Env
 K:uI
 dw:Nat→Bool
 eY:Nat→Bool
 vm:Bool:=false
 diff:Bool:=false
def Gd (c a b:RV):Option cB:=
 match c with
 | .d (.bool c)=>match a,b with
   | .d (.bool x),.d (.bool y)=>some { val:=.d (.bool (bif c then x else y)) }
   | x,y=>some { val:=bif c then x else y }
 | _=>none
def Q6 (x:RV):Option cB:=
 match x with
 | .ptr i o=>some { val:=.ptr i o }
 | .gQ i sz idx o=>some { val:=.gQ i sz idx o }
 | .aN y o=>some { val:=.aN y o }
 | .gG (.func f) fs cs=>some { val:=.gG (.func f) fs cs }
 | _=>none
def jT (O:Tab) (fn:Fn) (first caps:List RV):Option cB:=
 match fD O (first++caps) with
 | some (l,u,c)=>some { val:=.gG fn (l.take first.length) (l.drop first.length),upd:=u,conds:=c }
 | none=>none
def kC:Option TypeDesc→Bool
 | some (.int _)=>false
 | some _=>true
 | none=>false
def uY (cf:eu) (O:Tab) (sl:Nat) (b:Builtin) (tys:List Nat) (args:List RV):Option cB:=
 match b,tys,args with
 | .len,[t],[x]=>Aa cf.E O t x
 | .append,[t,t2],[x,y]=>bif kC (cf.E.und t2) then nk cf.E O sl t x y else none
 | .min,_,[x,y]=>sV true x y
 | .max,_,[x,y]=>sV false x y
 | .delete,[t,_],[x,y]=>nE cf.E O t x y
 | .clear,[t],[x]=>qg cf.E O t x
 | _,_,_=>none
def tJ (cf:eu) (R:Nat→RV) (O:Tab) (sl:Nat) (o:Oper):Option (cB×Bool):=
 let val (r:Option cB):Option (cB×Bool):=match r with
  | some r=>some (r,false)
  | none=>none
 match o.op with
 | .move x=>some ({ val:=aL R x },false)
 | .assign x=>some ({ val:=aL R x },false)
 | .pick c a b=>val (Gd (aL R c) (aL R a) (aL R b))
 | .alloc t=>match cf.E.zero t with
   | some z=>val (p8 cf.E O sl t (.d z))
   | none=>none
 | .box t x=>val (p8 cf.E O sl t (aL R x))
 | .build t parts=>val (BK cf.E t (parts.toList.map fun p=>(p.1,aL R p.2)))
 | .buildSlice t n parts=>val (iO cf.E O sl t n (parts.toList.map fun p=>(p.1,aL R p.2)))
 | .load t x=>val (mK cf.E O t (aL R x))
 | .store t x y=>match lY cf.E O t (aL R x) (aL R y) with
   | some r=>some ({ r with val:=.bot },true)
   | none=>none
 | .nilCheck x=>val (Q6 (aL R x))
 | .binOp op t x y _=>val (uO cf.E O op t (aL R x) (aL R y))
 | .unOp op _ x=>val (RI op (aL R x))
 | .convert s d x=>val (uP cf.E O sl s d (aL R x))
 | .slice t x lo hi mx=>val (qb cf.E O t (aL R x) (lo.map (aL R)) (hi.map (aL R)) (mx.map (aL R)))
 | .fieldAddr t x f=>val (oO cf.E t (aL R x) f)
 | .field t x f=>val (BL cf.E t (aL R x) f)
 | .indexAddr t x i=>val (jv cf.E O t (aL R x) (aL R i))
 | .index t x i=>val (BM cf.E t (aL R x) (aL R i))
 | .extract x i=>val (uQ (aL R x) i)
 | .makeFunc fn first caps=>val (jT O fn (first.toList.map (aL R)) (caps.toList.map (aL R)))
 | .makeSlice t l c=>val (lZ cf.E O sl t (aL R l) (aL R c))
 | .makeMap _ h=>val (nC O sl (h.map (aL R)))
 | .lookup t x i ok=>val (nD cf.E O t (aL R x) (aL R i) ok)
 | .mapUpdate t m k v=>match gT cf.E O t (aL R m) (aL R k) (aL R v) with
   | some r=>some ({ r with val:=.bot },true)
   | none=>none
 | .call c=>match c.callee with
   | .builtin b=>val (uY cf O sl b c.argTypes.toList (c.args.toList.map (aL R)))
   | .value f=>match aL R f with
     | .gG (.func g) first caps=>bif cf.eY g then val (qp cf.diff cf.K (cf.dw g) O sl g (first++c.args.toList.map (aL R)++caps)) else none
     | _=>none
   | _=>none
 | _=>none
def isConst:Operand→Bool
 | .const _=>true
 | _=>false
def Cm (E:Env) (op:BinOp) (t:Nat) (x y:RV):Option cB:=
 match E.und t,x,y with
 | some (.interface _),.d .xL,.d .xL=>match wO op true with
   | some v=>some { val:=v }
   | none=>none
 | _,_,_=>none
def nM (r:Option cB):Option (cB×Bool):=
 match r with
 | some r=>some (r,false)
 | none=>none
def ZH (x y:Int):Int:=if y > x then y else x
def Gf (x y z u:RV):Option cB:=
 match x,y,z,u with
 | .d (.int k a),.d (.int _ b),.d (.int _ c),.d (.int _ d)=>some { val:=.d (.int k (ZH (ZH (ZH a b) c) d)) }
 | _,_,_,_=>none
def Lx (E:Env) (t:Nat) (x:RV):Option cB:=
 match E.und t,x with
 | some (.array n _),.sl i _ o len _=>bif Nat.ble 1 n&&Nat.ble n len then some { val:=.ptr i o } else none
 | _,_=>none
def rX (E:Env) (O:Tab) (sl:Nat) (b:Builtin) (tys:List Nat) (args:List RV):Option cB:=
 match b,tys,args with
 | .len,[t],[x]=>FY E t x
 | .cap,[t],[x]=>FZ E t x
 | .append,[t,t2],[x,y]=>bif kC (E.und t2) then lq E O sl t x y else none
 | .copy,[t,_],[x,y]=>ql E O t x y
 | .clear,[t],[x]=>nI E O t x
 | .max,_,[x,y,z,u]=>Gf x y z u
 | _,_,_=>none
def tK (cf:eu) (R:Nat→RV) (O:Tab) (sl:Nat) (o:Oper):Option (cB×Bool):=
 match o.op with
 | .alloc t=>match cf.E.zero t with
   | some z=>nM (nG cf.E O sl t (.d z))
   | none=>none
 | .box t x=>nM (nG cf.E O sl t (aL R x))
 | .buildSlice t n parts=>nM (ku cf.E O sl t n (parts.toList.map fun p=>(p.1,aL R p.2)))
 | .load t x=>nM (qj cf.E O t (aL R x))
 | .store t x y=>match kK cf.E O t (aL R x) (aL R y) with
   | some r=>some ({ r with val:=.bot },true)
   | none=>none
 | .binOp op t x y _=>match yx cf.E op t (aL R x) (aL R y) with
   | some r=>some (r,false)
   | none=>bif isConst y then nM (Cm cf.E op t (aL R x) (aL R y)) else none
 | .convert s d x=>nM (qm cf.E O sl s d (aL R x))
 | .slice t x lo hi mx=>nM (nH cf.E O t (aL R x) (lo.map (aL R)) (hi.map (aL R)) (mx.map (aL R)))
 | .indexAddr t x i=>nM (nY cf.E t (aL R x) (aL R i))
 | .makeFunc fn first caps=>some ({ val:=.gG fn (first.toList.map (aL R)) (caps.toList.map (aL R)) },false)
 | .makeSlice t l c=>nM (kY cf.E O sl t (aL R l) (aL R c))
 | .range t x=>nM (xB cf.E O sl t (aL R x))
 | .next x str=>nM (Cj O (aL R x) str)
 | .sliceToArrayPointer t x=>nM (Lx cf.E t (aL R x))
 | .call c=>match c.callee with
   | .builtin b=>nM (rX cf.E O sl b c.argTypes.toList (c.args.toList.map (aL R)))
   | _=>none
 | _=>none
def Q7:RV→Bool
 | .sl _ _ _ _ _=>true
 | .d (.aF 0 [] true)=>true
 | .ptr _ _=>true
 | _=>false
def ZI:RV→Bool
 | .aN _ _=>false
 | _=>true
def ZJ:RV→Bool
 | .d (.aF _ (_::_) _)=>false
 | _=>true
def WC (E:Env) (R:Nat→RV) (o:Oper):Bool:=
 match o.op with
 | .alloc _=>true
 | .box _ _=>true
 | .buildSlice _ _ _=>true
 | .load _ x=>ZI (aL R x)
 | .store _ _ _=>true
 | .makeFunc _ _ _=>true
 | .makeSlice _ _ _=>true
 | .range _ _=>true
 | .next _ _=>true
 | .sliceToArrayPointer _ _=>true
 | .slice _ x _ _ _=>Q7 (aL R x)
 | .indexAddr _ x _=>ZJ (aL R x)
 | .binOp op t x y _=>match yx E op t (aL R x) (aL R y) with
   | some _=>true
   | none=>isConst y&&(Cm E op t (aL R x) (aL R y)).isSome
 | .convert s d x=>match E.und s,E.und d,aL R x with
   | _,some (.slice _),_=>true
   | some (.slice _),some .string,_=>true
   | _,_,_=>false
 | .call c=>match c.callee with
   | .builtin b=>match b,c.args.toList.map (aL R) with
     | .len,[.sl _ _ _ _ _]=>true
     | .cap,_=>true
     | .append,_=>true
     | .copy,_=>true
     | .clear,[x]=>Q7 x
     | .max,[_,_,_,_]=>true
     | _,_=>false
   | _=>false
 | _=>false
def isIt (o:Oper):Bool:=match o.op with
 | .range _ _=>true
 | .next _ _=>true
 | _=>false
def mR (cf:eu) (R:Nat→RV) (O:Tab) (sl:Nat) (o:Oper):Option (cB×Bool):=
 bif (cf.vm&&WC cf.E R o)||isIt o then tK cf R O sl o else tJ cf R O sl o
theorem Pg {κ:bB} {φ:bJ} {w:World} {s:bQ} {a:Act} (F:aC κ φ w s a) {x y z u:RV} {v1 v2 v3 v4:Value} {res:cB} {tys:Array TypeId} {ty:Nat}
 (hx:Gf x y z u=some res) (r1:bE κ φ s.O w.heap x v1) (r2:bE κ φ s.O w.heap y v2) (r3:bE κ φ s.O w.heap z v3) (r4:bE κ φ s.O w.heap u v4) :
 Out P κ φ w s a res.val res.upd (Builtin.max_ tys ty #[v1,v2,v3,v4]):=by
 unfold Gf at hx;split at hx
 ·injection hx with hx;subst hx;cases r1 with
  | d h1=>
  cases r2 with
  | d h2=>
  cases r3 with
  | d h3=>
  cases r4 with
  | d h4=>
  cases h1;cases h2;cases h3;cases h4;exact Out.pure F (by simp only [Builtin.max_,Builtin.max2,List.foldlM_cons,List.foldlM_nil];rfl) (.d (.int _ _))
 ·simp at hx
theorem R4 {κ:bB} {φ:bJ} {w:World} {s:bQ} {a:Act} (F:aC κ φ w s a) {t:Nat} {x:RV} {v:Value} {res:cB}
 (hx:Lx (Env.of P) t x=some res) (r:bE κ φ s.O w.heap x v):Out P κ φ w s a res.val res.upd (Instr.arrayAt t v):=by
 unfold Lx at hx;split at hx
 ·rename_i n e i sz o len cap hu;cases hb:(Nat.ble 1 n&&Nat.ble n len) with
  | false=>rw [hb] at hx;simp at hx
  | true=>
    rw [hb] at hx;simp only [cond_true,Option.some.injEq] at hx;subst hx;simp only [Bool.and_eq_true] at hb;have h1:=Nat.le_of_ble_eq_true hb.1;have h2:=Nat.le_of_ble_eq_true hb.2;cases r with
    | sl hφ hb ho hs hle hcc hn=>
      rename_i b o' fC c ty fz;have e:o'=o:=by rcases ho with h | h<;>omega
      subst e;exact Out.pure F (by simp only [Instr.arrayAt,Sem.run_bind,aK hu,Result.andThen_ok,if_neg (Nat.not_lt.2 h2),Sem.run_pure]) (.ptr hφ)
 ·simp at hx
structure jI (P:Program) (cf:eu):Prop where
 E:cf.E=Env.of P
 K:aX P cf.K
 call:∀f,cf.eY f=true→eY P f=true
theorem bg {κ:bB} {φ:bJ} {w:World} {s:bQ} {a:Act} (F:aC κ φ w s a) (x:Operand):bE κ φ s.O w.heap (aL s.R x) (a.eval x):=by
 cases x with
 | tmp t=>exact F.regs t
 | const v=>
   simp only [aL,Act.eval];cases h:DV.qY v with
   | none=>exact .bot _
   | some x=>exact .d (iG h)
 | global g=>exact .bot _
 | func f=>exact .gG rfl rfl (by simp) (by simp)
theorem mq {κ:bB} {φ:bJ} {w:World} {s:bQ} {a:Act} (F:aC κ φ w s a) (l:Array Operand):∀(i:Nat) (x:RV) (v:Value),(l.toList.map (aL s.R))[i]? = some x→(l.map a.eval)[i]? = some v→bE κ φ s.O w.heap x v:=by
 intro i x v hx hv;simp only [List.getElem?_map,Array.getElem?_toList] at hx;simp only [Array.getElem?_map] at hv;cases h:l[i]? with
 | none=>rw [h] at hx;simp at hx
 | some o=>rw [h] at hx hv;simp at hx hv;subst hx;subst hv;exact bg F o
theorem uZ {κ:bB} {φ:bJ} {w:World} {s:bQ} {a:Act} (F:aC κ φ w s a) (l:Array (Nat×Operand)) :
 (l.map fun (i,x)=>(i,a.eval x)).size=(l.toList.map fun p=>(p.1,aL s.R p.2)).length∧
 ∀(k:Nat) (p:Nat×RV) (q:Nat×Value),(l.toList.map fun p=>(p.1,aL s.R p.2))[k]? = some p→(l.map fun (i,x)=>(i,a.eval x))[k]? = some q→p.1=q.1∧bE κ φ s.O w.heap p.2 q.2:=by
 refine ⟨by simp,fun k p q hp hq=>?_⟩;simp only [List.getElem?_map,Array.getElem?_toList] at hp;simp only [Array.getElem?_map] at hq;cases h:l[k]? with
 | none=>rw [h] at hp;simp at hp
 | some o=>rw [h] at hp hq;simp at hp hq;subst hp;subst hq;exact ⟨rfl,bg F o.2⟩
theorem qw {κ:bB} {φ:bJ} {w:World} {s:bQ} {a:Act} (F:aC κ φ w s a) (l:Option Operand):zG κ φ s.O w.heap (l.map (aL s.R)) (l.map a.eval):=by
 cases l with
 | none=>exact .none
 | some o=>exact .some (bg F o)
theorem Ph {κ:bB} {φ:bJ} {w:World} {s:bQ} {a:Act} (F:aC κ φ w s a) {x y z:RV} {v u t:Value} {res:cB}
 (hx:Gd x y z=some res) (r:bE κ φ s.O w.heap x v) (r2:bE κ φ s.O w.heap y u) (r3:bE κ φ s.O w.heap z t) :
 Out P κ φ w s a res.val res.upd (do pure (if ←asBool v then u else t)):=by
 unfold Gd at hx;split at hx
 ·rename_i c;cases r with
  | d hr=>
  cases hr;have hrun:(do pure (if ←asBool (.bool c) then u else t):Sem Value).run P w = .ok (if c then u else t) w:=by simp [asBool]
  split at hx
  ·injection hx with hx;subst hx;cases r2 with
   | d h2=>
   cases r3 with
   | d h3=>
   cases h2;cases h3;refine Out.pure F hrun (.d ?_);cases c<;>exact .bool _
  ·injection hx with hx;subst hx;refine Out.pure F hrun ?_;cases c
   ·exact r3
   ·exact r2
 ·simp at hx
theorem Es {κ:bB} {φ:bJ} {w:World} {s:bQ} {a:Act} (F:aC κ φ w s a) {fn:Fn} {fs cs:List RV} {f c:Array Value} {res:cB}
 (hx:jT s.O fn fs cs=some res) (hc:∀b∈res.conds,b=true) (hl1:f.size=fs.length) (hl2:c.size=cs.length)
 (h1:∀(i:Nat) (x:RV) (v:Value),fs[i]? = some x→f[i]? = some v→bE κ φ s.O w.heap x v) (h2:∀(i:Nat) (x:RV) (v:Value),cs[i]? = some x→c[i]? = some v→bE κ φ s.O w.heap x v) :
 Out P κ φ w s a res.val res.upd (Instr.makeFunc fn f c):=by
 unfold jT at hx;cases hp:fD s.O (fs++cs) with
 | none=>rw [hp] at hx;simp at hx
 | some p=>
   obtain ⟨l,u,cc⟩:=p;rw [hp] at hx;simp only [Option.some.injEq] at hx;subst hx
   obtain ⟨κ1,q1,q2,q3,_,q5,q6⟩:=rW F (kG.refl _) hp hc (vs:=(f++c).toList) (by simp;omega) (fun i x v hx hv=>by
    by_cases hi:i < fs.length
    ·rw [List.getElem?_append_left hi] at hx;simp only [Array.toList_append] at hv;rw [List.getElem?_append_left (by simpa using by omega)] at hv;exact h1 i x v hx (by simpa using hv)
    ·rw [List.getElem?_append_right (by omega)] at hx;simp only [Array.toList_append] at hv;rw [List.getElem?_append_right (by simpa using by omega)] at hv;refine h2 _ x v hx ?_;rw [←hl1];simpa using hv)
   refine ⟨.func fn f c,w,κ1,φ,rfl,q1,.gG (by simp at q5;simp;omega) (by simp at q5;simp;omega) (fun i x v hx hv=>?_) (fun i x v hx hv=>?_),q3,q2.kp⟩
   ·rw [List.getElem?_take] at hx;split at hx
    ·refine q6 i x v hx ?_;rw [Array.toList_append,List.getElem?_append_left (by simpa using by omega)];simpa using hv
    ·simp at hx
   ·rw [List.getElem?_drop] at hx;refine q6 _ x v hx ?_;rw [Array.toList_append,List.getElem?_append_right (by simpa using by omega)]
    have:fs.length+i-f.toList.length=i:=by simp;omega
    rw [this];simpa using hv
theorem fB {o:Oper} {a:Act} {w w' : World} {next:Act→World→Prop} {Q:Exit→Act→World→Prop} {v:Value} (h:(execOp a.eval o).run P w = .ok (.value v) w') (hn:next (a.put o.dst v) w'):o.wp P a w next Q:=by
 unfold Oper.wp;rw [h];exact hn
theorem tL {o:Oper} {a:Act} {w w' : World} {next:Act→World→Prop} {Q:Exit→Act→World→Prop} (h:(execOp a.eval o).run P w = .ok .skip w') (hn:next (a.put o.dst undef) w'):o.wp P a w next Q:=by
 unfold Oper.wp;rw [h];exact hn
theorem R5 {κ:bB} {φ:bJ} {w:World} {s:bQ} {a:Act} {cf:eu} (hcf:jI P cf) (F:aC κ φ w s a) {sl:Nat} {o:Oper} {res:cB} {un:Bool} {next:Act→World→Prop} {Q:Exit→Act→World→Prop}
 (hx:tJ cf s.R s.O sl o=some (res,un)) (hc:∀b∈res.conds,b=true)
 (hn:∀v w' κ' φ',aC κ' φ' w' { s with O:=aV s.O res.upd } a→bE κ' φ' (aV s.O res.upd) w'.heap res.val v→Fr κ w κ' w'→Kp φ s.O φ' (aV s.O res.upd)→next (a.put o.dst v) w') :
 o.wp P a w next Q:=by
 obtain ⟨hE,hK,hcall⟩:=hcf;unfold tJ at hx;rw [hE] at hx
 have fin:∀(m:Sem Value),execOp a.eval o=(do pure (Next.value (←m)))→Out P κ φ w s a res.val res.upd m→o.wp P a w next Q:=by
  rintro m he ⟨v,w',κ',φ',h1,h2,h3,h4,h5⟩
  exact fB (by rw [he];simp [h1]) (hn v w' κ' φ' h2 h3 h4 h5)
 have val:∀(r:Option cB),(match r with | some r=>some (r,false) | none=>none)=some (res,un)→r=some res:=by
  intro r h;cases r with
  | none=>simp at h
  | some r=>simp at h;rw [h.1]
 cases ho:o.op<;>rw [ho] at hx<;>(try simp only at hx)<;>try (simp at hx;done)
 case move x=>
  injection hx with hx;injection hx with hx hx2;subst hx;exact fB (v:=a.eval x) (by simp [execOp,ho]) (hn _ w κ φ F (bg F x) (Fr.refl _ _) (Kp.refl _ _))
 case assign x=>
  injection hx with hx;injection hx with hx hx2;subst hx;exact fB (v:=a.eval x) (by simp [execOp,ho]) (hn _ w κ φ F (bg F x) (Fr.refl _ _) (Kp.refl _ _))
 case pick c x y=>
  have:=Ph (P:=P) F (val _ hx) (bg F c) (bg F x) (bg F y)
  exact fin _ (by simp [execOp,ho]) this
 case alloc t=>
  cases hz:(Env.of P).zero t with
  | none=>rw [hz] at hx;simp at hx
  | some z=>
    rw [hz] at hx;simp only at hx;obtain ⟨i,v,h1,h2,h3⟩:=xw hz
    have:=Ed F (val _ hx) (v:=v) (.d (iG h3))
    obtain ⟨v',w',κ',φ',g1,g2,g3,g4,g5⟩:=this;have ZK:(zeroValue t).run P w = .ok v w:=by simp [zeroValue,typeInfo,h1,h2]
    refine fB (v:=v') (w':=w') ?_ (hn v' w' κ' φ' g2 g3 g4 g5);simp only [Sem.run_bind,Sem.run_pure] at g1;simp only [execOp,ho,Instr.alloc,Sem.run_bind,ZK,Result.andThen_ok,Sem.run_pure,g1]
 case box t x=>
  exact fin _ (by simp [execOp,ho,Instr.box]) (Ed F (val _ hx) (bg F x))
 case build t parts=>
  obtain ⟨p1,p2⟩:=uZ F parts;exact fin _ (by simp only [execOp,ho]) (KT F (val _ hx) p1 p2)
 case buildSlice t n parts=>
  obtain ⟨p1,p2⟩:=uZ F parts;exact fin _ (by simp only [execOp,ho]) (zD F (val _ hx) hc p1 p2)
 case load t x=>exact fin _ (by simp only [execOp,ho]) (OV F (val _ hx) hc (bg F x))
 case store t x y=>
  cases hs:lY (Env.of P) s.O t (aL s.R x) (aL s.R y) with
  | none=>rw [hs] at hx;simp at hx
  | some r=>
    rw [hs] at hx;simp only [Option.some.injEq,Prod.mk.injEq] at hx;obtain ⟨rfl,rfl⟩:=hx;obtain ⟨w',κ',φ',h1,h2,h3,h4⟩:=KS F hs hc (bg F x) (bg F y);exact tL (by simp only [execOp,ho];simp [h1]) (hn _ w' κ' φ' h2 (.bot _) h3 h4)
 case nilCheck x=>
  have hv:=val _ hx;have r:=bg F x;unfold Q6 at hv;cases hr:aL s.R x<;>rw [hr] at hv r<;>(try simp only at hv)<;>try (simp at hv;done)
  case ptr i off=>
   injection hv with hv;subst hv;cases hv2:a.eval x<;>rw [hv2] at r<;>try (cases r;done)
   rename_i ad;cases r;exact fB (by simp only [execOp,ho,hv2];rfl) (hn _ w κ φ F (.ptr (by assumption)) (Fr.refl _ _) (Kp.refl _ _))
  case gQ i sz idx off=>
   injection hv with hv;subst hv;cases hv2:a.eval x<;>rw [hv2] at r<;>try (cases r;done)
   cases r;exact fB (by simp only [execOp,ho,hv2];rfl) (hn _ w κ φ F (.gQ (by assumption)) (Fr.refl _ _) (Kp.refl _ _))
  case aN y off=>
   injection hv with hv;subst hv;cases hv2:a.eval x<;>rw [hv2] at r<;>try (cases r;done)
   have r':=r;cases r;exact fB (by simp only [execOp,ho,hv2];rfl) (hn _ w κ φ F r' (Fr.refl _ _) (Kp.refl _ _))
  case gG fn fs cs=>
   cases fn<;>(try simp only at hv)<;>try (simp at hv;done)
   injection hv with hv;subst hv;cases hv2:a.eval x<;>rw [hv2] at r<;>try (cases r;done)
   have r':=r;cases r;exact fB (by simp only [execOp,ho,hv2];rfl) (hn _ w κ φ F r' (Fr.refl _ _) (Kp.refl _ _))
 case binOp op t x y yt=>exact fin _ (by simp only [execOp,ho]) (O5 (xo:=x) (yo:=y) F (val _ hx) hc (bg F x) (bg F y))
 case unOp op t x=>exact fin _ (by simp only [execOp,ho]) (WV F (val _ hx) (bg F x))
 case convert src dst x=>exact fin _ (by simp only [execOp,ho]) (O6 F (val _ hx) hc (bg F x))
 case slice t x lo hi mx=>exact fin _ (by simp only [execOp,ho]) (KZ F (val _ hx) hc (bg F x) (qw F lo) (qw F hi) (qw F mx))
 case fieldAddr t x f=>exact fin _ (by simp only [execOp,ho]) (BR F (val _ hx) (bg F x))
 case field t x f=>exact fin _ (by simp only [execOp,ho]) (KU F (val _ hx) (bg F x))
 case indexAddr t x i=>exact fin _ (by simp only [execOp,ho]) (BS F (val _ hx) hc (bg F x) (bg F i))
 case index t x i=>exact fin _ (by simp only [execOp,ho]) (KV F (val _ hx) hc (bg F x) (bg F i))
 case extract x i=>exact fin _ (by simp only [execOp,ho]) (FQ F (val _ hx) (bg F x))
 case makeFunc fn first caps=>
  exact fin _ (by simp only [execOp,ho]) (Es F (val _ hx) hc (by simp) (by simp) (mq F first) (mq F caps))
 case makeSlice t l c=>exact fin _ (by simp only [execOp,ho]) (BU F (val _ hx) hc (bg F l) (bg F c))
 case makeMap t h=>
  have hv:=val _ hx;cases h with
  | none=>exact fin _ (by simp only [execOp,ho];rfl) (FW (t:=t) F hv)
  | some y=>unfold nC at hv;simp only [Option.map_some] at hv;split at hv<;>simp_all
 case lookup t x i ok=>exact fin _ (by simp only [execOp,ho]) (JA F (val _ hx) hc (bg F x) (bg F i))
 case mapUpdate t m k y=>
  cases hs:gT (Env.of P) s.O t (aL s.R m) (aL s.R k) (aL s.R y) with
  | none=>rw [hs] at hx;simp at hx
  | some r=>
    rw [hs] at hx;simp only [Option.some.injEq,Prod.mk.injEq] at hx;obtain ⟨rfl,rfl⟩:=hx;obtain ⟨w',κ',φ',h1,h2,h3,h4⟩:=Ca F hs hc (bg F m) (bg F k) (bg F y);exact tL (by simp only [execOp,ho];simp [h1]) (hn _ w' κ' φ' h2 (.bot _) h3 h4)
 case call c=>
  cases zL:c.callee<;>rw [zL] at hx<;>(try simp only at hx)<;>try (simp at hx;done)
  case builtin b=>
   have hv:=val _ hx;have hargs:=mq F c.args
   have wH:execOp a.eval o=builtin b c.argTypes o.type (c.args.map fun | .const _=>true | _=>false) (c.args.map a.eval):=by
    simp only [execOp,ho,resolve,zL];rfl
   have vg:∀(m:Sem Value),builtin b c.argTypes o.type (c.args.map fun | .const _=>true | _=>false) (c.args.map a.eval)=(do pure (Next.value (←m)))→Out P κ φ w s a res.val res.upd m→o.wp P a w next Q:=
    fun m h1 h2=>fin m (by rw [wH,h1]) h2
   unfold uY at hv;rw [hE] at hv;have two:∀(n:Nat),(c.args.toList.map (aL s.R)).length=n→c.args.size=n:=by intro n h;simpa using h
   split at hv
   ·rename_i t x ht dA;have hsz:c.args.size=1:=two 1 (by rw [dA];rfl)
    have ha:c.args.map a.eval = #[a.eval c.args[0]]:=by
     apply Array.ext
     ·simp [hsz]
     ·intro i h1 h2;simp at h2;subst h2;simp
    have hty:c.argTypes = #[t]:=by have:=congrArg List.toArray ht;simpa using this
    have r0:=hargs 0 x (a.eval c.args[0]) (by rw [dA];rfl) (by rw [ha];rfl);refine vg (Builtin.len_ #[t] o.type #[a.eval c.args[0]]) ?_ (RY F hv r0);rw [ha,hty];rfl
   ·rename_i t t2 x y ht dA;have hsz:c.args.size=2:=two 2 (by rw [dA];rfl)
    have ha:c.args.map a.eval = #[a.eval c.args[0],a.eval c.args[1]]:=by
     apply Array.ext
     ·simp [hsz]
     ·intro i h1 h2;simp at h2
      have:i=0∨i=1:=by omega
      rcases this with rfl | rfl<;>simp
    have hty:c.argTypes = #[t,t2]:=by have:=congrArg List.toArray ht;simpa using this
    have r0:=hargs 0 x (a.eval c.args[0]) (by rw [dA];rfl) (by rw [ha];rfl);have r1:=hargs 1 y (a.eval c.args[1]) (by rw [dA];rfl) (by rw [ha];rfl);cases hni:kC ((Env.of P).und t2) with
    | false=>rw [hni] at hv;simp at hv
    | true=>
      rw [hni] at hv;simp only [cond_true] at hv;cases hu2:(Env.of P).und t2 with
      | none=>rw [hu2] at hni;simp [kC] at hni
      | some d2=>
        rw [hu2] at hni;have hout:=Jv F hv hc hu2 (fun k e=>by subst e;simp [kC] at hni) r0 r1;refine vg (Builtin.append_ #[t,t2] o.type #[a.eval c.args[0],a.eval c.args[1]]) (by rw [ha,hty];rfl) ?_;exact hout
   ·rename_i x y dA;have hsz:c.args.size=2:=two 2 (by rw [dA];rfl)
    have ha:c.args.map a.eval = #[a.eval c.args[0],a.eval c.args[1]]:=by
     apply Array.ext
     ·simp [hsz]
     ·intro i h1 h2;simp at h2
      have:i=0∨i=1:=by omega
      rcases this with rfl | rfl<;>simp
    have r0:=hargs 0 x (a.eval c.args[0]) (by rw [dA];rfl) (by rw [ha];rfl);have r1:=hargs 1 y (a.eval c.args[1]) (by rw [dA];rfl) (by rw [ha];rfl);refine vg (Builtin.min_ c.argTypes o.type #[a.eval c.args[0],a.eval c.args[1]]) (by rw [ha];rfl) ?_
    have:=Al (P:=P) (tys:=c.argTypes) (ty:=o.type) F hv r0 r1
    simpa using this
   ·rename_i x y dA;have hsz:c.args.size=2:=two 2 (by rw [dA];rfl)
    have ha:c.args.map a.eval = #[a.eval c.args[0],a.eval c.args[1]]:=by
     apply Array.ext
     ·simp [hsz]
     ·intro i h1 h2;simp at h2
      have:i=0∨i=1:=by omega
      rcases this with rfl | rfl<;>simp
    have r0:=hargs 0 x (a.eval c.args[0]) (by rw [dA];rfl) (by rw [ha];rfl);have r1:=hargs 1 y (a.eval c.args[1]) (by rw [dA];rfl) (by rw [ha];rfl);refine vg (Builtin.max_ c.argTypes o.type #[a.eval c.args[0],a.eval c.args[1]]) (by rw [ha];rfl) ?_
    have:=Al (P:=P) (tys:=c.argTypes) (ty:=o.type) F hv r0 r1
    simpa using this
   ·rename_i t t2 x y ht dA;have hsz:c.args.size=2:=two 2 (by rw [dA];rfl)
    have ha:c.args.map a.eval = #[a.eval c.args[0],a.eval c.args[1]]:=by
     apply Array.ext
     ·simp [hsz]
     ·intro i h1 h2;simp at h2
      have:i=0∨i=1:=by omega
      rcases this with rfl | rfl<;>simp
    have hty:c.argTypes = #[t,t2]:=by have:=congrArg List.toArray ht;simpa using this
    have r0:=hargs 0 x (a.eval c.args[0]) (by rw [dA];rfl) (by rw [ha];rfl);have r1:=hargs 1 y (a.eval c.args[1]) (by rw [dA];rfl) (by rw [ha];rfl);exact vg (Builtin.delete_ #[t,t2] o.type #[a.eval c.args[0],a.eval c.args[1]]) (by rw [ha,hty];rfl) (JB F hv hc r0 r1)
   ·rename_i t x ht dA;have hsz:c.args.size=1:=two 1 (by rw [dA];rfl)
    have ha:c.args.map a.eval = #[a.eval c.args[0]]:=by
     apply Array.ext
     ·simp [hsz]
     ·intro i h1 h2;simp at h2;subst h2;simp
    have hty:c.argTypes = #[t]:=by have:=congrArg List.toArray ht;simpa using this
    have r0:=hargs 0 x (a.eval c.args[0]) (by rw [dA];rfl) (by rw [ha];rfl);exact vg (Builtin.clear_ #[t] o.type #[a.eval c.args[0]]) (by rw [ha,hty];rfl) (Lg F hv hc r0)
   ·simp at hv
  case value f=>
   have rf:=bg F f;cases hrf:aL s.R f<;>rw [hrf] at hx rf<;>(try simp only at hx)<;>try (simp at hx;done)
   rename_i fn first caps;cases fn<;>(try simp only at hx)<;>try (simp at hx;done)
   rename_i g;cases hok:cf.eY g with
   | false=>rw [hok] at hx;simp at hx
   | true=>
     rw [hok] at hx;simp only [cond_true] at hx;have hv:=val _ hx;generalize hev:a.eval f=fv at rf;cases rf with
     | gG h1 h2 h3 h4=>
       rename_i fa ca;have hargs:=mq F c.args
       have wH:(execOp a.eval o).run P w = .ok (.enter g (fa++c.args.map a.eval++ca)) w:=by
        simp only [execOp,ho,resolve,zL,hev,Deferred.ofValue,Sem.run_bind,Sem.run_pure,Result.andThen_ok,invoke];exact tH (hcall g hok) _ w
       have Gg:=Lv F hK hv hc (vs:=fa++c.args.map a.eval++ca) (by simp;omega) (fun i x v hx hv=>by
        by_cases k1:i < first.length
        ·rw [List.append_assoc,List.getElem?_append_left k1] at hx;rw [Array.append_assoc,Array.getElem?_append_left (by omega)] at hv;exact h3 i x v hx hv
        ·rw [List.append_assoc,List.getElem?_append_right (by omega)] at hx;rw [Array.append_assoc,Array.getElem?_append_right (by omega)] at hv;by_cases k2:i-first.length < c.args.size
         ·rw [List.getElem?_append_left (by simpa using k2)] at hx;rw [Array.getElem?_append_left (by simp;omega)] at hv;exact hargs _ x v hx (by rw [←h1];exact hv)
         ·rw [List.getElem?_append_right (by simp;omega)] at hx;rw [Array.getElem?_append_right (by simp;omega)] at hv;refine h4 _ x v hx ?_;rw [←hv];congr 1;simp;omega)
       unfold Oper.wp;rw [wH];refine Gg.mono ?_
       rintro e w' ⟨v,κ',φ',rfl,g1,g2,g3,g4⟩
       exact hn v w' κ' φ' g1 g2 g3 g4
theorem Pj (n t:Nat) {ms:Array (String×TypeId)} (hu:P.underlying t=some (.interface ms)) (w:World):(Op.equalIn (n+1) t .nilIface .nilIface).run P w = .ok true w:=by
 simp [Op.equalIn,run_underlying hu]
theorem Pk {κ:bB} {φ:bJ} {w:World} {s:bQ} {a:Act} (F:aC κ φ w s a) {op:BinOp} {t:Nat} {x y:RV} {xo yo:Operand} {v u:Value} {res:cB} (hk:isConst yo=true)
 (hx:Cm (Env.of P) op t x y=some res) (r:bE κ φ s.O w.heap x v) (r2:bE κ φ s.O w.heap y u) :
 Out P κ φ w s a res.val res.upd (do eqGuard op t xo yo v u;binOp op t v u):=by
 unfold Cm at hx;split at hx
 ·rename_i ms hu;split at hx
  ·rename_i z he;injection hx with hx;subst hx;cases r with
   | d hr=>
   cases hr;cases r2 with
   | d hr2=>
   cases hr2
   have g:(eqGuard op t xo yo .nilIface .nilIface).run P w = .ok () w:=by
    unfold eqGuard;cases yo<;>simp [isConst] at hk
    cases op<;>simp
   have hq:(Op.equal t .nilIface .nilIface).run P w = .ok true w:=Pj (P:=P) 9999 t hu w;rcases ko he with ⟨rfl,rfl⟩ | ⟨rfl,rfl⟩
   ·exact Out.pure F (v:=.bool true) (by simp only [Sem.run_bind,g,Result.andThen_ok,binOp,hq,Sem.run_pure]) (.d (.bool _))
   ·exact Out.pure F (v:=.bool (!true)) (by simp only [Sem.run_bind,g,Result.andThen_ok,binOp,hq,Sem.run_pure]) (.d (.bool _))
  ·simp at hx
 ·simp at hx
theorem R6 {κ:bB} {φ:bJ} {w:World} {s:bQ} {a:Act} {cf:eu} (hE:cf.E=Env.of P) (F:aC κ φ w s a) {sl:Nat} {o:Oper} {res:cB} {un:Bool} {next:Act→World→Prop} {Q:Exit→Act→World→Prop}
 (hx:tK cf s.R s.O sl o=some (res,un)) (hc:∀b∈res.conds,b=true)
 (hn:∀v w' κ' φ',aC κ' φ' w' { s with O:=aV s.O res.upd } a→bE κ' φ' (aV s.O res.upd) w'.heap res.val v→Fr κ w κ' w'→Kp φ s.O φ' (aV s.O res.upd)→next (a.put o.dst v) w') :
 o.wp P a w next Q:=by
 unfold tK at hx;rw [hE] at hx
 have fin:∀(m:Sem Value),execOp a.eval o=(do pure (Next.value (←m)))→Out P κ φ w s a res.val res.upd m→o.wp P a w next Q:=by
  rintro m he ⟨v,w',κ',φ',h1,h2,h3,h4,h5⟩
  exact fB (by rw [he];simp [h1]) (hn v w' κ' φ' h2 h3 h4 h5)
 have val:∀(r:Option cB),nM r=some (res,un)→r=some res:=by
  intro r h;cases r with
  | none=>simp [nM] at h
  | some r=>simp [nM] at h;rw [h.1]
 cases ho:o.op<;>rw [ho] at hx<;>(try simp only at hx)<;>try (simp at hx;done)
 case alloc t=>
  cases hz:(Env.of P).zero t with
  | none=>rw [hz] at hx;simp at hx
  | some z=>
    rw [hz] at hx;simp only at hx;obtain ⟨i,v,h1,h2,h3⟩:=xw hz
    have:=Ap F (val _ hx) (v:=v) (.d (iG h3))
    obtain ⟨v',w',κ',φ',g1,g2,g3,g4,g5⟩:=this;have ZK:(zeroValue t).run P w = .ok v w:=by simp [zeroValue,typeInfo,h1,h2]
    refine fB (v:=v') (w':=w') ?_ (hn v' w' κ' φ' g2 g3 g4 g5);simp only [Sem.run_bind,Sem.run_pure] at g1;simp only [execOp,ho,Instr.alloc,Sem.run_bind,ZK,Result.andThen_ok,Sem.run_pure,g1]
 case box t x=>exact fin _ (by simp [execOp,ho,Instr.box]) (Ap F (val _ hx) (bg F x))
 case buildSlice t n parts=>
  obtain ⟨p1,p2⟩:=uZ F parts;exact fin _ (by simp only [execOp,ho]) (yw F (val _ hx) p1 p2)
 case load t x=>exact fin _ (by simp only [execOp,ho]) (Lh F (val _ hx) (bg F x))
 case store t x y=>
  cases hs:kK (Env.of P) s.O t (aL s.R x) (aL s.R y) with
  | none=>rw [hs] at hx;simp at hx
  | some r=>
    rw [hs] at hx;simp only [Option.some.injEq,Prod.mk.injEq] at hx;obtain ⟨rfl,rfl⟩:=hx;obtain ⟨w',κ',φ',h1,h2,h3,h4⟩:=JD F hs (bg F x) (bg F y);exact tL (by simp only [execOp,ho];simp [h1]) (hn _ w' κ' φ' h2 (.bot _) h3 h4)
 case binOp op t x y yt=>
  cases hb:yx (Env.of P) op t (aL s.R x) (aL s.R y) with
  | some r=>
    rw [hb] at hx;simp only [Option.some.injEq,Prod.mk.injEq] at hx;obtain ⟨rfl,rfl⟩:=hx;exact fin _ (by simp only [execOp,ho]) (Pd (xo:=x) (yo:=y) F hb (bg F x) (bg F y))
  | none=>
    rw [hb] at hx;simp only at hx;cases hk:isConst y with
    | false=>rw [hk] at hx;simp at hx
    | true=>
      rw [hk] at hx;simp only [cond_true] at hx;exact fin _ (by simp only [execOp,ho]) (Pk (xo:=x) (yo:=y) F hk (val _ hx) (bg F x) (bg F y))
 case range t x=>exact fin _ (by simp only [execOp,ho]) (Ls F (val _ hx) (bg F x))
 case sliceToArrayPointer t x=>exact fin _ (by simp only [execOp,ho]) (R4 F (val _ hx) (bg F x))
 case next x str=>exact fin (Instr.next (a.eval x) str o.type) (by simp only [execOp,ho]) (Pf F (val _ hx) (bg F x))
 case convert src dst x=>exact fin _ (by simp only [execOp,ho]) (Lm F (val _ hx) (bg F x))
 case slice t x lo hi mx=>exact fin _ (by simp only [execOp,ho]) (JE F (val _ hx) hc (bg F x) (qw F lo) (qw F hi) (qw F mx))
 case indexAddr t x i=>exact fin _ (by simp only [execOp,ho]) (zI F (val _ hx) hc (bg F x) (bg F i))
 case makeFunc fn first caps=>
  simp only [Option.some.injEq,Prod.mk.injEq] at hx;obtain ⟨rfl,rfl⟩:=hx;exact fin _ (by simp only [execOp,ho]) (Ci F (by simp) (by simp) (mq F first) (mq F caps))
 case makeSlice t l c=>exact fin _ (by simp only [execOp,ho]) (zJ F (val _ hx) hc (bg F l) (bg F c))
 case call c=>
  cases zL:c.callee<;>rw [zL] at hx<;>(try simp only at hx)<;>try (simp at hx;done)
  rename_i b;have hv:=val _ hx;have hargs:=mq F c.args
  have wH:execOp a.eval o=builtin b c.argTypes o.type (c.args.map fun | .const _=>true | _=>false) (c.args.map a.eval):=by
   simp only [execOp,ho,resolve,zL];rfl
  have vg:∀(m:Sem Value),builtin b c.argTypes o.type (c.args.map fun | .const _=>true | _=>false) (c.args.map a.eval)=(do pure (Next.value (←m)))→Out P κ φ w s a res.val res.upd m→o.wp P a w next Q:=
   fun m h1 h2=>fin m (by rw [wH,h1]) h2
  unfold rX at hv;have two:∀(n:Nat),(c.args.toList.map (aL s.R)).length=n→c.args.size=n:=by intro n h;simpa using h
  have R7:∀x,c.args.toList.map (aL s.R)=[x]→∃u,c.args.map a.eval = #[u]∧bE κ φ s.O w.heap x u:=by
   intro x dA;have hsz:c.args.size=1:=two 1 (by rw [dA];rfl)
   have ha:c.args.map a.eval = #[a.eval c.args[0]]:=by
    apply Array.ext
    ·simp [hsz]
    ·intro i h1 h2;simp at h2;subst h2;simp
   exact ⟨_,ha,hargs 0 x (a.eval c.args[0]) (by rw [dA];rfl) (by rw [ha];rfl)⟩
  have Xg:∀x y,c.args.toList.map (aL s.R)=[x,y]→∃u v,c.args.map a.eval = #[u,v]∧bE κ φ s.O w.heap x u∧bE κ φ s.O w.heap y v:=by
   intro x y dA;have hsz:c.args.size=2:=two 2 (by rw [dA];rfl)
   have ha:c.args.map a.eval = #[a.eval c.args[0],a.eval c.args[1]]:=by
    apply Array.ext
    ·simp [hsz]
    ·intro i h1 h2;simp at h2
     have:i=0∨i=1:=by omega
     rcases this with rfl | rfl<;>simp
   exact ⟨_,_,ha,hargs 0 x (a.eval c.args[0]) (by rw [dA];rfl) (by rw [ha];rfl),hargs 1 y (a.eval c.args[1]) (by rw [dA];rfl) (by rw [ha];rfl)⟩
  split at hv
  ·rename_i t x ht dA;obtain ⟨u,ha,r0⟩:=R7 x dA;have hty:c.argTypes = #[t]:=by have:=congrArg List.toArray ht;simpa using this
   exact vg (Builtin.len_ #[t] o.type #[u]) (by rw [ha,hty];rfl) (O9 F hv r0)
  ·rename_i t x ht dA;obtain ⟨u,ha,r0⟩:=R7 x dA;have hty:c.argTypes = #[t]:=by have:=congrArg List.toArray ht;simpa using this
   exact vg (Builtin.cap_ #[t] o.type #[u]) (by rw [ha,hty];rfl) (Pb F hv r0)
  ·rename_i t t2 x y ht dA;obtain ⟨u,v,ha,r0,r1⟩:=Xg x y dA;have hty:c.argTypes = #[t,t2]:=by have:=congrArg List.toArray ht;simpa using this
   cases hni:kC ((Env.of P).und t2) with
   | false=>rw [hni] at hv;simp at hv
   | true=>
     rw [hni] at hv;simp only [cond_true] at hv;cases hu2:(Env.of P).und t2 with
     | none=>rw [hu2] at hni;simp [kC] at hni
     | some d2=>
       rw [hu2] at hni;exact vg (Builtin.append_ #[t,t2] o.type #[u,v]) (by rw [ha,hty];rfl) (F7 F hv hc hu2 (fun k e=>by subst e;simp [kC] at hni) r0 r1)
  ·rename_i t t2 x y ht dA;obtain ⟨u,v,ha,r0,r1⟩:=Xg x y dA;have hty:c.argTypes = #[t,t2]:=by have:=congrArg List.toArray ht;simpa using this
   exact vg (Builtin.copy_ #[t,t2] o.type #[u,v]) (by rw [ha,hty];rfl) (Ll F hv r0 r1)
  ·rename_i t x ht dA;obtain ⟨u,ha,r0⟩:=R7 x dA;have hty:c.argTypes = #[t]:=by have:=congrArg List.toArray ht;simpa using this
   exact vg (Builtin.clear_ #[t] o.type #[u]) (by rw [ha,hty];rfl) (JF F hv r0)
  ·rename_i x y z u dA;have hsz:c.args.size=4:=two 4 (by rw [dA];rfl)
   have ha:c.args.map a.eval = #[a.eval c.args[0],a.eval c.args[1],a.eval c.args[2],a.eval c.args[3]]:=by
    apply Array.ext
    ·simp [hsz]
    ·intro i h1 h2;simp at h2
     have:i=0∨i=1∨i=2∨i=3:=by omega
     rcases this with rfl | rfl | rfl | rfl<;>simp
   have r0:=hargs 0 x (a.eval c.args[0]) (by rw [dA];rfl) (by rw [ha];rfl);have r1:=hargs 1 y (a.eval c.args[1]) (by rw [dA];rfl) (by rw [ha];rfl);have r2:=hargs 2 z (a.eval c.args[2]) (by rw [dA];rfl) (by rw [ha];rfl);have r3:=hargs 3 u (a.eval c.args[3]) (by rw [dA];rfl) (by rw [ha];rfl);exact vg (Builtin.max_ c.argTypes o.type #[a.eval c.args[0],a.eval c.args[1],a.eval c.args[2],a.eval c.args[3]]) (by rw [ha];rfl) (Pg F hv r0 r1 r2 r3)
  ·simp at hv
theorem Et {κ:bB} {φ:bJ} {w:World} {s:bQ} {a:Act} {cf:eu} (hcf:jI P cf) (F:aC κ φ w s a) {sl:Nat} {o:Oper} {res:cB} {un:Bool} {next:Act→World→Prop} {Q:Exit→Act→World→Prop}
 (hx:mR cf s.R s.O sl o=some (res,un)) (hc:∀b∈res.conds,b=true)
 (hn:∀v w' κ' φ',aC κ' φ' w' { s with O:=aV s.O res.upd } a→bE κ' φ' (aV s.O res.upd) w'.heap res.val v→Fr κ w κ' w'→Kp φ s.O φ' (aV s.O res.upd)→next (a.put o.dst v) w') :
 o.wp P a w next Q:=by
 unfold mR at hx;cases hv:((cf.vm&&WC cf.E s.R o)||isIt o) with
 | false=>rw [hv] at hx;exact R5 hcf F hx hc hn
 | true=>rw [hv] at hx;exact R6 hcf.E F hx hc hn
structure iU where
 n:Nat
 m:Nat
 regs:T RV
 objs:T ay
def aY (t:T RV) (i:Nat):RV:=
 match t.get i with
 | some v=>v
 | none=>.bot
def iU.den (st:iU):bQ:={ n:=st.n,R:=aY st.regs,O:=st.objs.get }
def jm (o:T ay):List (Nat×ay)→T ay
 | []=>o
 | (i,p)::r=>jm (o.set i (some p)) r
def oW (u:List (Nat×ay)):Bool:=u.all fun p=>Nat.ble p.1 65000
theorem rY:∀(u:List (Nat×ay)) (o:T ay),oW u=true→(jm o u).get=aV o.get u
 | [],_,_=>rfl
 | (i,p)::r,o,h=>by
   simp only [oW,List.all_cons,Bool.and_eq_true] at h;have hi:=Nat.le_of_ble_eq_true h.1;simp only [jm];rw [rY r _ h.2]
   have:(o.set i (some p)).get=bA o.get i (some p):=by
    funext j;by_cases e:j=i
    ·subst e;rw [T.get_set_same _ (by omega),bH]
    ·rw [T.bU _ e,dM _ _ e]
   rw [this];rfl
theorem jA {t:T RV} {d:Nat} (hd:d < 65535) (v:RV):aY (t.set d (some v))=jl (aY t) d v:=by
 funext i;unfold aY jl;by_cases e:i=d
 ·subst e;rw [T.get_set_same _ hd];simp
 ·rw [T.bU _ e];simp [e]
abbrev Ov:=List (Nat×RV)
def vk (d:Nat):Ov→Option RV
 | []=>none
 | (t,v)::r=>bif Nat.beq t d then some v else vk d r
def iI (x y:RV):Prop:=∀κ φ O h v,bE κ φ O h x v→bE κ φ O h y v
theorem iI.of_eq {x y:RV} (h:x=y):iI x y:=fun _ _ _ _ _ r=>h▸r
structure Acc where
 st:iU
 cs:List Bool
 es:List (RV×RV)
def LB (o:T ay) (s:Nat):Bool:=(o.get s).isNone&&(o.get (s+1)).isNone&&(o.get (s+2)).isNone&&(o.get (s+3)).isNone&&(o.get (s+4)).isNone&&(o.get (s+5)).isNone&&(o.get (s+6)).isNone&&(o.get (s+7)).isNone
def Eu (o:T ay):Nat→Nat→Nat
 | 0,s=>s
 | f+1,s=>bif LB o s then s else Eu o f (s+8)
def LC (st:iU) (o:Oper):Nat:=
 bif LB st.objs (match o.dst with | some d=>64+8*d | none=>64+8*st.n) then (match o.dst with | some d=>64+8*d | none=>64+8*st.n)
 else Eu st.objs 4000 (64+8*(st.n+1))
def guardOf (R:Nat→RV) (ops:Array Oper) (o:Oper):Option Bool:=
 match o.guard with
 | none=>some true
 | some (j,want)=>match ops[j]? with
   | some g=>match g.dst with
     | some t=>match R t with
       | .d (.bool b)=>some (b==want)
       | .und=>some false
       | _=>none
     | none=>none
   | none=>none
def mU (st:iU) (dst:Option Nat) (v:RV):Option iU:=
 match dst with
 | none=>some st
 | some d=>bif Nat.ble (d+1) st.n&&Nat.ble d 8000 then some { st with regs:=st.regs.set d (some v) } else none
def yD (cf:eu) (ops:Array Oper) (ov:Ov) (o:Oper) (ac:Acc):Option Acc:=
 match guardOf (aY ac.st.regs) ops o with
 | none=>none
 | some false=>match mU ac.st o.dst .und with
   | some st=>some { ac with st:=st }
   | none=>none
 | some true=>match mR cf (aY ac.st.regs) ac.st.objs.get (LC ac.st o) o with
   | none=>none
   | some (res,_)=>bif oW res.upd then
      match o.dst with
      | none=>some { st:={ ac.st with objs:=jm ac.st.objs res.upd },cs:=ac.cs++res.conds,es:=ac.es }
      | some d=>match vk d ov with
        | none=>match mU { ac.st with objs:=jm ac.st.objs res.upd } (some d) res.val with
          | some st=>some { st:=st,cs:=ac.cs++res.conds,es:=ac.es }
          | none=>none
        | some v=>match mU { ac.st with objs:=jm ac.st.objs res.upd } (some d) v with
          | some st=>some { st:=st,cs:=ac.cs++res.conds,es:=ac.es++[(res.val,v)] }
          | none=>none
     else none
def oZ (cf:eu) (ops:Array Oper) (ov:Ov):List Oper→Acc→Option Acc
 | [],ac=>some ac
 | o::r,ac=>match yD cf ops ov o ac with
   | some jB=>oZ cf ops ov r jB
   | none=>none
theorem jU {st st' : iU} {dst:Option Nat} {v:RV} (h:mU st dst v=some st'):st'.n=st.n∧st'.m=st.m∧st'.objs=st.objs∧
 ((dst=none∧st'=st)∨∃d,dst=some d∧d < st.n∧st'.den = { st.den with R:=jl st.den.R d v }):=by
 unfold mU at h;cases dst with
 | none=>injection h with h;subst h;exact ⟨rfl,rfl,rfl,.inl ⟨rfl,rfl⟩⟩
 | some d=>
   simp only at h;cases hg:(Nat.ble (d+1) st.n&&Nat.ble d 8000) with
   | false=>rw [hg] at h;simp at h
   | true=>
     rw [hg] at h;simp only [cond_true,Option.some.injEq] at h;subst h;simp only [Bool.and_eq_true] at hg;have h1:=Nat.le_of_ble_eq_true hg.1;have h2:=Nat.le_of_ble_eq_true hg.2;refine ⟨rfl,rfl,rfl,.inr ⟨d,rfl,by omega,?_⟩⟩;simp only [iU.den,jA (show d < 65535 by omega)]
theorem aC.mU {κ:bB} {φ:bJ} {w:World} {st st' : iU} {a:Act} {dst:Option Nat} {rv:RV} {v:Value} (F:aC κ φ w st.den a) (h:Am.mU st dst rv=some st')
 (hr:bE κ φ st.den.O w.heap rv v):aC κ φ w st'.den (a.put dst v):=by
 obtain ⟨_,_,_,h4⟩:=jU h;rcases h4 with ⟨rfl,rfl⟩ | ⟨d,rfl,hd,e⟩
 ·exact F.xu v
 ·rw [e];exact F.put hd hr
theorem Ev {cf:eu} {ops:Array Oper} {ov:Ov} {o:Oper} {ac jB : Acc} (h:yD cf ops ov o ac=some jB):(∀c∈ac.cs,c∈jB.cs)∧(∀e∈ac.es,e∈jB.es)∧jB.st.m=ac.st.m∧jB.st.n=ac.st.n:=by
 unfold yD at h;split at h
 ·simp at h
 ·split at h
  ·rename_i st hp;injection h with h;subst h;obtain ⟨h1,h2,_⟩:=jU hp;exact ⟨fun c hc=>hc,fun e he=>he,h2,h1⟩
  ·simp at h
 ·split at h
  ·simp at h
  ·rename_i res un hex;cases hs:oW res.upd with
   | false=>rw [hs] at h;simp at h
   | true=>
     rw [hs] at h;simp only [cond_true] at h;split at h
     ·injection h with h;subst h;exact ⟨fun c hc=>by simp [hc],fun e he=>he,rfl,rfl⟩
     ·split at h
      ·split at h
       ·rename_i st hp;injection h with h;subst h;obtain ⟨h1,h2,_⟩:=jU hp;exact ⟨fun c hc=>by simp [hc],fun e he=>he,h2,h1⟩
       ·simp at h
      ·split at h
       ·rename_i st hp;injection h with h;subst h;obtain ⟨h1,h2,_⟩:=jU hp;exact ⟨fun c hc=>by simp [hc],fun e he=>by simp [he],h2,h1⟩
       ·simp at h
theorem vo {cf:eu} {ops:Array Oper} {ov:Ov}:∀(l:List Oper) {ac jB : Acc},oZ cf ops ov l ac=some jB→(∀c∈ac.cs,c∈jB.cs)∧(∀e∈ac.es,e∈jB.es)∧jB.st.m=ac.st.m∧jB.st.n=ac.st.n
 | [],ac,jB,h=>by simp [oZ] at h;subst h;exact ⟨fun _ h=>h,fun _ h=>h,rfl,rfl⟩
 | o::r,ac,jB,h=>by
   simp only [oZ] at h;cases h1:yD cf ops ov o ac with
   | none=>rw [h1] at h;simp at h
   | some a1=>
     rw [h1] at h;simp only at h;obtain ⟨p1,p2,p3,p4⟩:=Ev h1;obtain ⟨q1,q2,q3,q4⟩:=vo r h;exact ⟨fun c hc=>q1 c (p1 c hc),fun e he=>q2 e (p2 e he),q3.trans p3,q4.trans p4⟩
theorem fZ {κ:bB} {φ:bJ} {w:World} {s:bQ} {a:Act} (F:aC κ φ w s a) {ops:Array Oper} {o:Oper} {g:Bool} (h:guardOf s.R ops o=some g)
 (hn:∀j want gg t,o.guard=some (j,want)→ops[j]? = some gg→gg.dst=some t→t < s.n):Region.wanted o (yielded ops a.tmps)=g:=by
 unfold guardOf at h;unfold Region.wanted;cases hg:o.guard with
 | none=>rw [hg] at h;simp at h;simp [h]
 | some p=>
   obtain ⟨j,want⟩:=p;rw [hg] at h;simp only at h;cases ho:ops[j]? with
   | none=>rw [ho] at h;simp at h
   | some gg=>
     rw [ho] at h;simp only at h;cases hd:gg.dst with
     | none=>rw [hd] at h;simp at h
     | some t=>
       rw [hd] at h;simp only at h;have hr:=F.regs t;cases hR:s.R t<;>rw [hR] at h hr<;>(try simp only at h)<;>try (simp at h;done)
       case und=>
        injection h with h;subst h;have hlt:t < a.tmps.size:=by rw [F.n];exact hn j want gg t hg ho hd
        generalize hv:a.tmps.getD t undef=v at hr;cases hr
        have hget:a.tmps[t]? = some undef:=by
         rw [Array.getElem?_eq_getElem hlt];rw [Array.getD_eq_getD_getElem?,Array.getElem?_eq_getElem hlt] at hv;simpa using hv
        simp only [yielded,ho,Option.bind_some,hd,hget];cases want<;>rfl
       rename_i x;cases x<;>(try simp only at h)<;>try (simp at h;done)
       rename_i b;injection h with h;subst h;have hlt:t < a.tmps.size:=by rw [F.n];exact hn j want gg t hg ho hd
       generalize hv:a.tmps.getD t undef=v at hr;cases hr with
       | d hr=>
       cases hr
       have hget:a.tmps[t]? = some (.bool b):=by
        rw [Array.getElem?_eq_getElem hlt];rw [Array.getD_eq_getD_getElem?,Array.getElem?_eq_getElem hlt] at hv;simpa using hv
       simp only [yielded,ho,Option.bind_some,hd,hget];cases b<;>cases want<;>rfl
theorem LD {κ:bB} {φ:bJ} {w:World} {a:Act} {cf:eu} (hcf:jI P cf) {ops:Array Oper} {ov:Ov} {o:Oper} {ac jB : Acc} (F:aC κ φ w ac.st.den a)
 (h:yD cf ops ov o ac=some jB) (hc:∀c∈jB.cs,c=true) (he:∀e∈jB.es,iI e.1 e.2) {i:Nat} (hi:ops[i]? = some o)
 (hn:∀j want gg t,o.guard=some (j,want)→ops[j]? = some gg→gg.dst=some t→t < ac.st.n) {Q:Exit→Act→World→Prop} {K:Act→World→Prop}
 (hk:∀a' w' κ' φ',aC κ' φ' w' jB.st.den a'→Fr κ w κ' w'→Kp φ ac.st.den.O φ' jB.st.den.O→K a' w'):wpOp P ops Q i K a w:=by
 unfold yD at h;unfold wpOp;rw [hi];simp only;split at h
 ·simp at h
 ·rename_i hg;have hw:=fZ (s:=ac.st.den) F hg hn;rw [hw];simp only [Bool.false_eq_true,if_false];split at h
  ·rename_i st hp;injection h with h;subst h;have hden:=jU hp;refine hk _ _ κ φ (F.mU hp .und) (Fr.refl _ _) ?_
   have:st.den.O=ac.st.den.O:=by simp only [iU.den,hden.2.2.1]
   simp only [this];exact Kp.refl _ _
  ·simp at h
 ·rename_i hg;have hw:=fZ (s:=ac.st.den) F hg hn;rw [hw];simp only [if_true];left;split at h
  ·simp at h
  ·rename_i res un hex;cases hs:oW res.upd with
   | false=>rw [hs] at h;simp at h
   | true=>
     rw [hs] at h;simp only [cond_true] at h;have hO:(jm ac.st.objs res.upd).get=aV ac.st.den.O res.upd:=rY _ _ hs
     have fin:∀(st:iU) (rv:RV),mU { ac.st with objs:=jm ac.st.objs res.upd } o.dst rv=some st→iI res.val rv→(∀c∈res.conds,c=true)→jB.st=st→
      o.wp P a w K Q:=by
      intro st rv hp hle hcc hst;refine Et hcf F (sl:=LC ac.st o) hex hcc (fun v w' κ' φ' g1 g2 g3 g4=>?_)
      have F1:aC κ' φ' w' ({ ac.st with objs:=jm ac.st.objs res.upd }:iU).den a:=by
       have:({ ac.st with objs:=jm ac.st.objs res.upd }:iU).den = { ac.st.den with O:=aV ac.st.den.O res.upd }:=by simp only [iU.den,hO]
       rw [this];exact g1
      have hden:=jU hp;have e2:st.den.O=aV ac.st.den.O res.upd:=by simp only [iU.den,hden.2.2.1];exact hO
      refine hk _ _ κ' φ' ?_ g3 ?_
      ·rw [hst];refine F1.mU hp (hle _ _ _ _ _ ?_)
       have:({ ac.st with objs:=jm ac.st.objs res.upd }:iU).den.O=aV ac.st.den.O res.upd:=hO
       rw [this];exact g2
      ·rw [hst,e2];exact g4
     split at h
     ·rename_i hd;injection h with h;subst h;exact fin { ac.st with objs:=jm ac.st.objs res.upd } res.val (by rw [hd];rfl) (fun _ _ _ _ _ r=>r) (fun c hcc=>hc c (by simp [hcc])) rfl
     ·rename_i d hd;split at h
      ·split at h
       ·rename_i st hp;injection h with h;subst h;exact fin st res.val (by rw [hd];exact hp) (fun _ _ _ _ _ r=>r) (fun c hcc=>hc c (by simp [hcc])) rfl
       ·simp at h
      ·rename_i v hv;split at h
       ·rename_i st hp;injection h with h;subst h;exact fin st v (by rw [hd];exact hp) (he (res.val,v) (by simp)) (fun c hcc=>hc c (by simp [hcc])) rfl
       ·simp at h
def dx (n:Nat) (ops:Array Oper):Bool:=ops.toList.all fun o=>match o.dst with
 | some t=>Nat.ble (t+1) n
 | none=>true
theorem bZ {n:Nat} {ops:Array Oper} (h:dx n ops=true):∀(j:Nat) (gg:Oper) (t:Nat),ops[j]? = some gg→gg.dst=some t→t < n:=by
 intro j gg t hj ht;have hm:gg∈ops.toList:=List.mem_iff_getElem?.2 ⟨j,by simpa using hj⟩
 have:=List.all_eq_true.1 h gg hm
 rw [ht] at this;exact Nat.le_of_ble_eq_true this
theorem Au {cf:eu} (hcf:jI P cf) {ops:Array Oper} {ov:Ov} {Q:Exit→Act→World→Prop}:∀(l:List Oper) (k:Nat) {κ:bB} {φ:bJ} {w:World} {a:Act} {ac jB : Acc},
 aC κ φ w ac.st.den a→oZ cf ops ov l ac=some jB→(∀c∈jB.cs,c=true)→(∀e∈jB.es,iI e.1 e.2)→dx ac.st.n ops=true→(∀i o,l[i]? = some o→ops[k+i]? = some o)→
 (∀a' w' κ' φ',aC κ' φ' w' jB.st.den a'→Fr κ w κ' w'→Kp φ ac.st.den.O φ' jB.st.den.O→Q .normal a' w')→wpOps P ops Q (List.range' k l.length) a w
 | [],k,κ,φ,w,a,ac,jB,F,h,hc,he,hg,hl,hk=>by
   simp [oZ] at h;subst h;exact hk a w κ φ F (Fr.refl _ _) (Kp.refl _ _)
 | o::r,k,κ,φ,w,a,ac,jB,F,h,hc,he,hg,hl,hk=>by
   simp only [oZ] at h;cases h1:yD cf ops ov o ac with
   | none=>rw [h1] at h;simp at h
   | some a1=>
     rw [h1] at h;simp only at h;obtain ⟨q1,q2,q3,q4⟩:=vo r h;obtain ⟨p1,p2,p3,p4⟩:=Ev h1;have hk0:ops[k]? = some o:=by simpa using hl 0 o rfl
     simp only [List.length_cons,List.range'_succ];rw [wpOps_cons];refine LD hcf F h1 (fun c hc'=>hc c (q1 c hc')) (fun e he'=>he e (q2 e he')) hk0 (fun j want gg t _ hj ht=>bZ hg j gg t hj ht) (fun a' w' κ' φ' g1 g2 g3=>?_);exact Au hcf r (k+1) g1 h hc he (by rw [p4];exact hg) (fun i o' hi=>by have:=hl (i+1) o' (by simpa using hi);rw [←this];congr 1;omega) (fun a2 w2 κ2 φ2 k1 k2 k3=>hk a2 w2 κ2 φ2 k1 (g2.trans k2) (g3.trans k3))
inductive It where
 | code (c:Code)
 | blk (id:Nat)
 | lp (c:Code)
 | scp (c:Code)
def It.item:It→Item
 | .code c=>.code c
 | .blk id=>.inBlock id
 | .lp c=>.inLoop c
 | .scp c=>.inScope c
structure nS (m:Nat) (φ:bJ) (O:Tab) (φ' : bJ) (O' : Tab):Prop where
 phi:∀i,i < m→φ i≠.un→φ' i=φ i
 len:∀i n,i < m→φ i≠.un→ay.dn (O' i)=some n→ay.dn (O i)=some n
theorem Kp.m {φ φ' : bJ} {O O' : Tab} (h:Kp φ O φ' O') (m:Nat):nS m φ O φ' O':=⟨fun i _ hi=>h.phi i hi,fun i n _ hi hn=>h.len i n hi hn⟩
theorem nS.refl (m:Nat) (φ:bJ) (O:Tab):nS m φ O φ O:=(Kp.refl φ O).m m
theorem nS.trans {m:Nat} {φ φ' φ'' : bJ} {O O' QS : Tab} (a:nS m φ O φ' O') (b:nS m φ' O' φ'' QS):nS m φ O φ'' QS where
 phi:=fun i hm hi=>by rw [b.phi i hm (by rw [a.phi i hm hi];exact hi),a.phi i hm hi]
 len:=fun i n hm hi hn=>a.len i n hm hi (b.len i n hm (by rw [a.phi i hm hi];exact hi) hn)
def WK (P:Program) (m:Nat) (k:List It) (s:bQ) (Q:bQ→Prop):Prop:=
 ∀(κ:bB) (φ:bJ) (w:World) (a:Act),aC κ φ w s a→∀(b:Frame) (cs:List Frame),∃e a' w' κ' φ' s',(e = .normal∨e = .ret)∧Q s'∧aC κ' φ' w' s' a'∧
  Fr κ w κ' w'∧nS m φ s.O φ' s'.O∧Arrives P (lone (b.at a (k.map It.item)) cs w) b [] cs e a' w'
theorem WK.done {m:Nat} {s:bQ} {Q:bQ→Prop} (h:Q s):WK P m [] s Q:=fun κ φ w a F _ _=>
 ⟨.normal,a,w,κ,φ,s,.inl rfl,h,F,Fr.refl _ _,nS.refl _ _ _,Steps.refl _ _⟩
theorem WK.step {m:Nat} {k k' : List It} {s s' : bQ} {Q:bQ→Prop} (h:WK P m k' s' Q)
 (hs:∀κ φ w a,aC κ φ w s a→∃κ' φ' w' a',aC κ' φ' w' s' a'∧Fr κ w κ' w'∧nS m φ s.O φ' s'.O∧∀(b:Frame) (cs:List Frame),Steps P (lone (b.at a (k.map It.item)) cs w) (lone (b.at a' (k'.map It.item)) cs w')):WK P m k s Q:=by
 intro κ φ w a F b cs;obtain ⟨κ1,φ1,w1,a1,F1,R1,K1,S1⟩:=hs κ φ w a F;obtain ⟨e,a',w',κ',φ',s2,h1,h2,h3,h4,h5,h6⟩:=h κ1 φ1 w1 a1 F1 b cs;exact ⟨e,a',w',κ',φ',s2,h1,h2,h3,R1.trans h4,K1.trans h5,h6.of_steps (S1 b cs)⟩
theorem WK.code {m:Nat} {k k' : List It} {s:bQ} {Q:bQ→Prop} (h:WK P m k' s Q) (hs:∀κ φ w a,aC κ φ w s a→∀(b:Frame) (cs:List Frame),Steps P (lone (b.at a (k.map It.item)) cs w) (lone (b.at a (k'.map It.item)) cs w)):WK P m k s Q:=
 h.step fun κ φ w a F=>⟨κ,φ,w,a,F,Fr.refl _ _,nS.refl _ _ _,hs κ φ w a F⟩
theorem WK.state {m:Nat} {k:List It} {s s' : bQ} {Q:bQ→Prop} (h:WK P m k s' Q) (hs:∀κ φ w a,aC κ φ w s a→∃κ' φ',aC κ' φ' w s' a∧Fr κ w κ' w∧nS m φ s.O φ' s'.O):WK P m k s Q:=
 h.step fun κ φ w a F=>let ⟨κ',φ',h1,h2,h3⟩:=hs κ φ w a F;⟨κ',φ',w,a,h1,h2,h3,fun _ _=>Steps.refl _ _⟩
theorem WK.skip {m:Nat} {k:List It} {s:bQ} {Q:bQ→Prop} (h:WK P m k s Q):WK P m (.code .skip::k) s Q:=h.code fun _ _ _ _ _ _ _=>.one step_skip
theorem WK.seq {m:Nat} {x y:Code} {k:List It} {s:bQ} {Q:bQ→Prop} (h:WK P m (.code x :: .code y::k) s Q):WK P m (.code (.seq x y)::k) s Q:=h.code fun _ _ _ _ _ _ _=>.one step_seq
theorem WK.block {m id:Nat} {x:Code} {k:List It} {s:bQ} {Q:bQ→Prop} (h:WK P m (.code x :: .blk id::k) s Q):WK P m (.code (.block id x)::k) s Q:=h.code fun _ _ _ _ _ _ _=>.one step_block
theorem WK.blk {m id:Nat} {k:List It} {s:bQ} {Q:bQ→Prop} (h:WK P m k s Q):WK P m (.blk id::k) s Q:=h.code fun _ _ _ _ _ _ _=>.one step_inBlock
theorem WK.enter {m:Nat} {x:Code} {k:List It} {s:bQ} {Q:bQ→Prop} (h:WK P m (.code x :: .lp x::k) s Q):WK P m (.code (.loop x)::k) s Q:=h.code fun _ _ _ _ _ _ _=>.one step_loop
theorem WK.scope {m:Nat} {x:Code} {k:List It} {s:bQ} {Q:bQ→Prop} (h:WK P m (.code x :: .scp x::k) s Q):WK P m (.code (.scope x)::k) s Q:=h.code fun _ _ _ _ _ _ _=>.one step_scope
theorem WK.scp {m:Nat} {x:Code} {k:List It} {s:bQ} {Q:bQ→Prop} (h:WK P m k s Q):WK P m (.scp x::k) s Q:=h.code fun _ _ _ _ _ _ _=>.one step_inScope
theorem WK.label {m l:Nat} {k:List It} {s:bQ} {Q:bQ→Prop} (h:WK P m k s Q):WK P m (.code (.label l)::k) s Q:=h.code fun _ _ _ _ _ _ _=>.one step_label
theorem WK.again {m:Nat} {x:Code} {k:List It} {s:bQ} {Q:bQ→Prop} (h:WK P m (.code x :: .lp x::k) s Q):WK P m (.lp x::k) s Q:=h.code fun _ _ _ _ _ _ _=>.one step_inLoop
theorem WK.ret {m:Nat} {k:List It} {s:bQ} {Q:bQ→Prop} (h:Q s):WK P m (.code .ret::k) s Q:=fun κ φ w a F _ _=>
 ⟨.ret,a,w,κ,φ,s,.inr rfl,h,F,Fr.refl _ _,nS.refl _ _ _,_,.one step_ret⟩
def lH (id:Nat):List It→Option (List It)
 | []=>none
 | .blk j::k=>bif Nat.beq j id then some k else lH id k
 | .code _::k=>lH id k
 | .lp _::k=>lH id k
 | .scp _::k=>lH id k
theorem lI (id:Nat):∀(k k' : List It),lH id k=some k'→exitTo id (k.map It.item)=some (k'.map It.item)
 | [],k',h=>by simp [lH] at h
 | .blk j::k,k',h=>by
   simp only [lH] at h;simp only [List.map_cons,It.item,exitTo];cases hb:Nat.beq j id with
   | true=>rw [hb] at h;simp at h;subst h;have:=bV hb;subst this;simp
   | false=>
     rw [hb] at h;simp only [cond_false] at h
     have hne:(j==id)=false:=by
      cases e:j==id with
      | false=>rfl
      | true=>have:=eq_of_beq e;subst this;rw [vZ rfl] at hb;cases hb
     simp [hne,lI id k k' h]
 | .code c::k,k',h=>by simp only [lH] at h;simp [It.item,exitTo,lI id k k' h]
 | .lp c::k,k',h=>by simp only [lH] at h;simp [It.item,exitTo,lI id k k' h]
 | .scp c::k,k',h=>by simp only [lH] at h;simp [It.item,exitTo,lI id k k' h]
theorem WK.exit {m id:Nat} {k k' : List It} {s:bQ} {Q:bQ→Prop} (he:lH id k=some k') (h:WK P m k' s Q):WK P m (.code (.exit id)::k) s Q:=
 h.code fun _ _ _ _ _ _ _=>.one (step_exit (lI id k k' he))
theorem WK.cond {m:Nat} {c:Operand} {x y:Code} {k:List It} {s:bQ} {Q:bQ→Prop} {t:Bool} (hc:aL s.R c = .d (.bool t)) (h:WK P m (.code (if t then x else y)::k) s Q):WK P m (.code (.cond c x y)::k) s Q:=
 h.code fun κ φ w a F b cs=>by
  have r:=bg F c;rw [hc] at r;generalize hv:a.eval c=v at r;cases r with
  | d hr=>cases hr;exact .one (step_cond hv)
theorem WK.region {m id:Nat} {ops:Array Oper} {k:List It} {s s' : bQ} {Q:bQ→Prop}
 (hr:∀κ φ w a,aC κ φ w s a→wpOps P ops (fun e a' w'=>e = .normal∧∃κ' φ',aC κ' φ' w' s' a'∧Fr κ w κ' w'∧nS m φ s.O φ' s'.O) (List.range ops.size) a w)
 (h:WK P m k s' Q):WK P m (.code (.region id ops false)::k) s Q:=by
 intro κ φ w a F b cs;obtain ⟨e,a1,w1,⟨rfl,κ1,φ1,F1,R1,K1⟩,harr⟩:=wp_region (id:=id) (hr κ φ w a F) b (k.map It.item) cs;obtain ⟨e,a',w',κ',φ',s2,h1,h2,h3,h4,h5,h6⟩:=h κ1 φ1 w1 a1 F1 b cs;exact ⟨e,a',w',κ',φ',s2,h1,h2,h3,R1.trans h4,K1.trans h5,h6.of_steps harr⟩
theorem WK.tN {m id:Nat} {ops:Array Oper} {k:List It} {s s' : bQ} {Q:bQ→Prop} (fI:P.follows .mixedOrders=true)
 (hr:∀κ φ w a,aC κ φ w s a→wpAny P .any ops (fun e a' w'=>e = .normal∧∃κ' φ',aC κ' φ' w' s' a'∧Fr κ w κ' w'∧nS m φ s.O φ' s'.O) ops.size (Array.replicate ops.size false) a w)
 (h:WK P m k s' Q):WK P m (.code (.region id ops true)::k) s Q:=by
 intro κ φ w a F b cs;have F' : aC κ φ { w with drawn:=w.drawn+1 } s a:=⟨F.regs,F.objs,⟨F.bnd.lt,F.bnd.gl⟩,F.n,F.df⟩;obtain ⟨e,a1,w1,⟨rfl,κ1,φ1,F1,R1,K1⟩,harr⟩:=wp_region_any (id:=id) fI (hr κ φ { w with drawn:=w.drawn+1 } a F') b (k.map It.item) cs;obtain ⟨e,a',w',κ',φ',s2,h1,h2,h3,h4,h5,h6⟩:=h κ1 φ1 w1 a1 F1 b cs;exact ⟨e,a',w',κ',φ',s2,h1,h2,h3,Fr.trans (κ':=κ1) (w':=w1) ⟨R1.size,R1.dS,R1.kW,R1.w9,R1.os,R1.out⟩ h4,K1.trans h5,h6.of_steps harr⟩
theorem lJ {R R' : Nat→RV} {x:Operand} (h:∀t,x = .tmp t→R t=R' t):aL R x=aL R' x:=by
 cases x with
 | tmp t=>exact h t rfl
 | _=>rfl
theorem jo {R R' : Nat→RV} {l:List Operand} (h:∀x∈l,aL R x=aL R' x):l.map (aL R)=l.map (aL R'):=List.map_congr_left h
theorem Ew {cf:eu} {R R' : Nat→RV} {O:Tab} {sl:Nat} {o:Oper} (h:∀x∈o.op.operands,aL R x=aL R' x):tJ cf R O sl o=tJ cf R' O sl o:=by
 unfold tJ;cases ho:o.op<;>rw [ho] at h<;>simp only [Op.operands] at h
 case move x=>simp [h x (by simp)]
 case assign x=>simp [h x (by simp)]
 case pick c x y=>simp only [h c (by simp),h x (by simp),h y (by simp)]
 case box t x=>simp only [h x (by simp)]
 case build t parts=>
  have:(parts.toList.map fun p=>(p.1,aL R p.2))=(parts.toList.map fun p=>(p.1,aL R' p.2)):=List.map_congr_left fun p hp=>by
   rw [h p.2 (by simp;exact ⟨p.1,by simpa using hp⟩)]
  simp only [this]
 case buildSlice t n parts=>
  have:(parts.toList.map fun p=>(p.1,aL R p.2))=(parts.toList.map fun p=>(p.1,aL R' p.2)):=List.map_congr_left fun p hp=>by
   rw [h p.2 (by simp;exact ⟨p.1,by simpa using hp⟩)]
  simp only [this]
 case load t x=>simp only [h x (by simp)]
 case store t x y=>simp only [h x (by simp),h y (by simp)]
 case nilCheck x=>simp only [h x (by simp)]
 case binOp op t x y yt=>simp only [h x (by simp),h y (by simp)]
 case unOp op t x=>simp only [h x (by simp)]
 case convert s d x=>simp only [h x (by simp)]
 case slice t x lo hi mx=>
  have h1:lo.map (aL R)=lo.map (aL R'):=by cases lo with | none=>rfl | some y=>simp [h y (by simp)]
  have h2:hi.map (aL R)=hi.map (aL R'):=by cases hi with | none=>rfl | some y=>simp [h y (by simp)]
  have h3:mx.map (aL R)=mx.map (aL R'):=by cases mx with | none=>rfl | some y=>simp [h y (by simp)]
  simp only [h x (by simp),h1,h2,h3]
 case fieldAddr t x f=>simp only [h x (by simp)]
 case field t x f=>simp only [h x (by simp)]
 case indexAddr t x i=>simp only [h x (by simp),h i (by simp)]
 case index t x i=>simp only [h x (by simp),h i (by simp)]
 case extract x i=>simp only [h x (by simp)]
 case makeFunc fn first caps=>
  have h1:first.toList.map (aL R)=first.toList.map (aL R'):=jo fun x hx=>h x (by simp;left;simpa using hx);have h2:caps.toList.map (aL R)=caps.toList.map (aL R'):=jo fun x hx=>h x (by simp;right;simpa using hx);simp only [h1,h2]
 case makeSlice t l c=>simp only [h l (by simp),h c (by simp)]
 case makeMap t r=>
  have:r.map (aL R)=r.map (aL R'):=by cases r with | none=>rfl | some y=>simp [h y (by simp)]
  simp only [this]
 case lookup t x i ok=>simp only [h x (by simp),h i (by simp)]
 case mapUpdate t m k v=>simp only [h m (by simp),h k (by simp),h v (by simp)]
 case call c=>
  have h1:c.args.toList.map (aL R)=c.args.toList.map (aL R'):=jo fun x hx=>h x (by simp [Call.operands];right;simpa using hx);simp only [h1];cases zL:c.callee with
  | value f=>simp only [h f (by simp [Call.operands,zL])]
  | _=>rfl
 all_goals rfl
theorem Ey {cf:eu} {R R' : Nat→RV} {O:Tab} {sl:Nat} {o:Oper} (h:∀x∈o.op.operands,aL R x=aL R' x):tK cf R O sl o=tK cf R' O sl o:=by
 unfold tK;cases ho:o.op<;>rw [ho] at h<;>simp only [Op.operands] at h
 case box t x=>try simp only [h x (by simp)]
 case buildSlice t n parts=>
  have:(parts.toList.map fun p=>(p.1,aL R p.2))=(parts.toList.map fun p=>(p.1,aL R' p.2)):=List.map_congr_left fun p hp=>by
   rw [h p.2 (by simp;exact ⟨p.1,by simpa using hp⟩)]
  try simp only [this]
 case load t x=>try simp only [h x (by simp)]
 case store t x y=>try simp only [h x (by simp),h y (by simp)]
 case binOp op t x y yt=>try simp only [h x (by simp),h y (by simp)]
 case convert s d x=>try simp only [h x (by simp)]
 case slice t x lo hi mx=>
  have h1:lo.map (aL R)=lo.map (aL R'):=by cases lo with | none=>rfl | some y=>simp [h y (by simp)]
  have h2:hi.map (aL R)=hi.map (aL R'):=by cases hi with | none=>rfl | some y=>simp [h y (by simp)]
  have h3:mx.map (aL R)=mx.map (aL R'):=by cases mx with | none=>rfl | some y=>simp [h y (by simp)]
  try simp only [h x (by simp),h1,h2,h3]
 case indexAddr t x i=>try simp only [h x (by simp),h i (by simp)]
 case makeFunc fn first caps=>
  have h1:first.toList.map (aL R)=first.toList.map (aL R'):=jo fun x hx=>h x (by simp;left;simpa using hx);have h2:caps.toList.map (aL R)=caps.toList.map (aL R'):=jo fun x hx=>h x (by simp;right;simpa using hx)
  try simp only [h1,h2]
 case makeSlice t l c=>try simp only [h l (by simp),h c (by simp)]
 case sliceToArrayPointer t x=>try simp only [h x (by simp)]
 case range t x=>try simp only [h x (by simp)]
 case next x str=>try simp only [h x (by simp)]
 case call c=>
  have h1:c.args.toList.map (aL R)=c.args.toList.map (aL R'):=jo fun x hx=>h x (by simp [Call.operands];right;simpa using hx)
  try simp only [h1]
theorem JJ {E:Env} {R R' : Nat→RV} {o:Oper} (h:∀x∈o.op.operands,aL R x=aL R' x):WC E R o=WC E R' o:=by
 unfold WC;cases ho:o.op<;>rw [ho] at h<;>simp only [Op.operands] at h
 case binOp op t x y yt=>try simp only [h x (by simp),h y (by simp)]
 case convert s d x=>try simp only [h x (by simp)]
 case slice t x lo hi mx=>simp only [h x (by simp)]
 case indexAddr t x i=>simp only [h x (by simp)]
 case load t x=>simp only [h x (by simp)]
 case call c=>
  have h1:c.args.toList.map (aL R)=c.args.toList.map (aL R'):=jo fun x hx=>h x (by simp [Call.operands];right;simpa using hx)
  try simp only [h1]
theorem og {cf:eu} {R R' : Nat→RV} {O:Tab} {sl:Nat} {o:Oper} (h:∀x∈o.op.operands,aL R x=aL R' x):mR cf R O sl o=mR cf R' O sl o:=by
 unfold mR;rw [JJ h,Ey h,Ew h]
def kL (cf:eu) (ops:Array Oper) (ov:Ov) (R:Nat→RV) (O:Tab) (o:Oper):Option (RV×List Bool×List (RV×RV)):=
 match guardOf R ops o with
 | none=>none
 | some false=>some (.und,[],[])
 | some true=>match mR cf R O 0 o with
   | none=>none
   | some (res,_)=>bif res.upd.isEmpty then
      match o.dst with
      | none=>some (.bot,res.conds,[])
      | some d=>match vk d ov with
        | none=>some (res.val,res.conds,[])
        | some v=>some (v,res.conds,[(res.val,v)])
     else none
def jc (R:Nat→RV) (dst:Option Nat) (v:RV):Nat→RV:=
 match dst with
 | none=>R
 | some d=>jl R d v
theorem aC.jc {κ:bB} {φ:bJ} {w:World} {s:bQ} {a:Act} (F:aC κ φ w s a) {dst:Option Nat} {rv:RV} {v:Value} (hd:∀d,dst=some d→d < s.n)
 (hr:bE κ φ s.O w.heap rv v):aC κ φ w { s with R:=Am.jc s.R dst rv } (a.put dst v):=by
 cases dst with
 | none=>exact F.xu v
 | some d=>exact F.put (hd d rfl) hr
theorem Cn {κ:bB} {φ:bJ} {w:World} {s:bQ} {a:Act} {cf:eu} (hcf:jI P cf) {ops:Array Oper} {ov:Ov} {o:Oper} {v:RV} {cs:List Bool} {es:List (RV×RV)} (F:aC κ φ w s a)
 (h:kL cf ops ov s.R s.O o=some (v,cs,es)) (hc:∀c∈cs,c=true) (he:∀e∈es,iI e.1 e.2) {i:Nat} (hi:ops[i]? = some o)
 (hn:∀(j:Nat) (gg:Oper) (t:Nat),ops[j]? = some gg→gg.dst=some t→t < s.n) {Q:Exit→Act→World→Prop} {K:Act→World→Prop}
 (hk:∀a' w' κ' φ',aC κ' φ' w' { s with R:=jc s.R o.dst v } a'→Fr κ w κ' w'→Kp φ s.O φ' s.O→K a' w'):wpOp P ops Q i K a w:=by
 unfold kL at h;unfold wpOp;rw [hi];simp only;have hdst:∀d,o.dst=some d→d < s.n:=fun d hd=>hn i o d hi hd;split at h
 ·simp at h
 ·rename_i hg;rw [fZ F hg (fun j want gg t _ hj ht=>hn j gg t hj ht)];simp only [Bool.false_eq_true,if_false];injection h with h;injection h with h1 h2;subst h1;exact hk _ _ κ φ (F.jc hdst .und) (Fr.refl _ _) (Kp.refl _ _)
 ·rename_i hg;rw [fZ F hg (fun j want gg t _ hj ht=>hn j gg t hj ht)];simp only [if_true];left;split at h
  ·simp at h
  ·rename_i res un hex;cases hu:res.upd.isEmpty with
   | false=>rw [hu] at h;simp at h
   | true=>
     rw [hu] at h;simp only [cond_true] at h;have hu' : res.upd=[]:=by simpa using hu
     have fin:∀rv,v=rv→iI res.val rv∨o.dst=none→(∀c∈res.conds,c=true)→o.wp P a w K Q:=by
      rintro rv rfl hle hcc
      refine Et hcf F (sl:=0) hex hcc (fun u w' κ' φ' g1 g2 g3 g4=>?_);rw [hu'] at g1 g2 g4;refine hk _ _ κ' φ' ?_ g3 g4;rcases hle with hle | hle
      ·exact aC.jc (s:=s) g1 hdst (hle _ _ _ _ _ g2)
      ·rw [hle];exact g1
     split at h
     ·rename_i hd;injection h with h;injection h with h1 h2;injection h2 with h2 h3;subst h2;exact fin v rfl (.inr hd) hc
     ·split at h
      ·injection h with h;injection h with h1 h2;injection h2 with h2 h3;subst h2;exact fin v rfl (.inl (h1▸fun _ _ _ _ _ r=>r)) hc
      ·rename_i vv hv;injection h with h;injection h with h1 h2;injection h2 with h2 h3;subst h2;subst h3;subst h1;exact fin _ rfl (.inl (he (res.val,vv) (by simp))) hc
def looks (o:Oper) (ops:Array Oper):List Nat:=
 o.op.operands.toList.filterMap (fun x=>match x with | .tmp t=>some t | _=>none) ++
 (match o.guard with
   | some (j,_)=>match ops[j]? with
     | some g=>g.dst.toList
     | none=>[]
   | none=>[])
def Co (o:Oper) (i:Nat):Bool:=o.after.any fun e=>Nat.beq e.on i&&Region.binds .any e
def quietAt (ops:Array Oper) (j:Nat) (o:Oper):Bool:=
 (o.after.all fun e=>!(Region.binds .any e)||Nat.ble (e.on+1) j) &&
 ops.toList.zipIdx.all fun (p,i)=>match p.dst with
  | none=>true
  | some d=>(Nat.beq i j||(match o.dst with | some d'=>!(Nat.beq d d') | none=>true)) &&
     (!((looks o ops).any fun t=>Nat.beq t d)||(Nat.ble (i+1) j&&Co o i)||(Nat.ble (j+1) i&&Co p j))
def iQ (ops:Array Oper):Bool:=ops.toList.zipIdx.all fun (o,j)=>quietAt ops j o
theorem bX {ops:Array Oper} (h:iQ ops=true) {j:Nat} {o:Oper} (hj:ops[j]? = some o) :
 (∀e∈o.after,Region.binds .any e=true→e.on < j)∧
 ∀(i:Nat) (p:Oper) (d:Nat),ops[i]? = some p→p.dst=some d→(i=j∨o.dst≠some d)∧(d∈looks o ops→(i < j∧∃e∈o.after,e.on=i∧Region.binds .any e=true)∨(j < i∧∃e∈p.after,e.on=j∧Region.binds .any e=true)):=by
 have hm:(o,j)∈ops.toList.zipIdx:=by
  rw [List.mem_zipIdx_iff_getElem?];simpa using hj
 have h1:=List.all_eq_true.1 h _ hm;simp only [quietAt,Bool.and_eq_true] at h1;refine ⟨fun e he hb=>?_,fun i p d hi hd=>?_⟩
 ·have:=Array.all_eq_true'.1 h1.1 e he
  simp only [Bool.or_eq_true,Bool.not_eq_true'] at this;rcases this with this | this
  ·rw [hb] at this;cases this
  ·exact Nat.le_of_ble_eq_true this
 ·have hm2:(p,i)∈ops.toList.zipIdx:=by
   rw [List.mem_zipIdx_iff_getElem?];simpa using hi
  have h2:=List.all_eq_true.1 h1.2 _ hm2;simp only [hd,Bool.and_eq_true,Bool.or_eq_true,Bool.not_eq_true'] at h2;refine ⟨?_,fun hl=>?_⟩
  ·rcases h2.1 with h3 | h3
   ·exact .inl (bV h3)
   ·right;intro e;rw [e] at h3;simp only [Bool.not_eq_true'] at h3;rw [vZ rfl] at h3;cases h3
  ·rcases h2.2 with (h3 | h3) | h3
   ·exfalso
    have:=List.any_eq_false.1 h3 d hl
    rw [vZ rfl] at this;simp at this
   ·refine .inl ⟨Nat.le_of_ble_eq_true h3.1,?_⟩;have h4:=h3.2;simp only [Co,Array.any_eq_true',Bool.and_eq_true] at h4;obtain ⟨e,he1,he2,yE⟩:=h4;exact ⟨e,he1,bV he2,yE⟩
   ·refine .inr ⟨Nat.le_of_ble_eq_true h3.1,?_⟩;have h4:=h3.2;simp only [Co,Array.any_eq_true',Bool.and_eq_true] at h4;obtain ⟨e,he1,he2,yE⟩:=h4;exact ⟨e,he1,bV he2,yE⟩
def yF (cf:eu) (ops:Array Oper) (ov:Ov) (O:Tab):List Oper→(T RV)→List Bool→List (RV×RV)→Option (T RV×List Bool×List (RV×RV))
 | [],t,cs,es=>some (t,cs,es)
 | o::r,t,cs,es=>match kL cf ops ov (aY t) O o with
   | none=>none
   | some (v,c,e)=>match o.dst with
     | none=>yF cf ops ov O r t (cs++c) (es++e)
     | some d=>bif Nat.ble d 8000 then yF cf ops ov O r (t.set d (some v)) (cs++c) (es++e) else none
theorem qx {cf:eu} {ops:Array Oper} {ov:Ov} {O:Tab}:∀(l:List Oper) (t t' : T RV) (cs cs' : List Bool) (es es' : List (RV×RV)),yF cf ops ov O l t cs es=some (t',cs',es')→
 (∀c∈cs,c∈cs')∧(∀e∈es,e∈es')∧(∀d,(∀o∈l,o.dst≠some d)→aY t' d=aY t d)
 | [],t,t',cs,cs',es,es',h=>by
   simp [yF] at h;obtain ⟨rfl,rfl,rfl⟩:=h;exact ⟨fun _ h=>h,fun _ h=>h,fun _ _=>rfl⟩
 | o::r,t,t',cs,cs',es,es',h=>by
   simp only [yF] at h;cases h1:kL cf ops ov (aY t) O o with
   | none=>rw [h1] at h;simp at h
   | some p=>
     obtain ⟨v,c,e⟩:=p;rw [h1] at h;simp only at h;cases hd:o.dst with
     | none=>
       rw [hd] at h;simp only at h;obtain ⟨q1,q2,q3⟩:=qx r _ _ _ _ _ _ h;exact ⟨fun c hc=>q1 c (by simp [hc]),fun e he=>q2 e (by simp [he]),fun d hh=>q3 d (fun o ho=>hh o (by simp [ho]))⟩
     | some d0=>
       rw [hd] at h;simp only at h;cases hb:Nat.ble d0 8000 with
       | false=>rw [hb] at h;simp at h
       | true=>
         rw [hb] at h;simp only [cond_true] at h;obtain ⟨q1,q2,q3⟩:=qx r _ _ _ _ _ _ h;have hle:=Nat.le_of_ble_eq_true hb;refine ⟨fun c hc=>q1 c (by simp [hc]),fun e he=>q2 e (by simp [he]),fun d hh=>?_⟩;rw [q3 d (fun o ho=>hh o (by simp [ho])),jA (by omega)]
         have:d≠d0:=fun e=>hh o (by simp) (by rw [hd,e])
         simp [jl,this]
theorem Iw {cf:eu} {ops:Array Oper} {ov:Ov} {O:Tab}:∀(l:List Oper) (t t' : T RV) (cs cs' : List Bool) (es es' : List (RV×RV)),yF cf ops ov O l t cs es=some (t',cs',es')→
 (∀(i j:Nat) (p q:Oper) (d:Nat),l[i]? = some p→l[j]? = some q→p.dst=some d→q.dst=some d→i=j)→
 ∀(j:Nat) (o:Oper),l[j]? = some o→∃(R:Nat→RV) (v:RV) (c:List Bool) (e:List (RV×RV)),kL cf ops ov R O o=some (v,c,e)∧(∀x∈c,x∈cs')∧(∀x∈e,x∈es')∧
  (∀d,o.dst=some d→aY t' d=v)∧(∀d,(∀(i:Nat) (p:Oper),i < j→l[i]? = some p→p.dst≠some d)→R d=aY t d)∧
  (∀(i:Nat) (p:Oper) (d:Nat),i < j→l[i]? = some p→p.dst=some d→R d=aY t' d)
 | [],t,t',cs,cs',es,es',h,hnd,j,o,hj=>by simp at hj
 | o0::r,t,t',cs,cs',es,es',h,hnd,j,o,hj=>by
   simp only [yF] at h;cases h1:kL cf ops ov (aY t) O o0 with
   | none=>rw [h1] at h;simp at h
   | some p=>
     obtain ⟨v,c,e⟩:=p;rw [h1] at h;simp only at h
     have hnd' : ∀(i j:Nat) (p q:Oper) (d:Nat),r[i]? = some p→r[j]? = some q→p.dst=some d→q.dst=some d→i=j:=fun i j p q d hi hj' hp hq=>by
      have:=hnd (i+1) (j+1) p q d (by simpa using hi) (by simpa using hj') hp hq;omega
     have tail:∀(t1:T RV),yF cf ops ov O r t1 (cs++c) (es++e)=some (t',cs',es')→(∀d,o0.dst≠some d→aY t1 d=aY t d)→(∀d,o0.dst=some d→aY t1 d=v)→
      ∃(R:Nat→RV) (v:RV) (c:List Bool) (e:List (RV×RV)),kL cf ops ov R O o=some (v,c,e)∧(∀x∈c,x∈cs')∧(∀x∈e,x∈es')∧
       (∀d,o.dst=some d→aY t' d=v)∧(∀d,(∀(i:Nat) (p:Oper),i < j→(o0::r)[i]? = some p→p.dst≠some d)→R d=aY t d)∧
       (∀(i:Nat) (p:Oper) (d:Nat),i < j→(o0::r)[i]? = some p→p.dst=some d→R d=aY t' d):=by
      intro t1 hr ht1 ht2;obtain ⟨m1,m2,m3⟩:=qx r _ _ _ _ _ _ hr;cases j with
      | zero=>
        simp at hj;subst hj;refine ⟨aY t,v,c,e,h1,fun x hx=>m1 x (by simp [hx]),fun x hx=>m2 x (by simp [hx]),fun d hd=>?_,fun d _=>rfl,fun i p d hi=>by omega⟩
        rw [m3 d (fun q hq qQ=>by
         obtain ⟨k,hk⟩:=List.mem_iff_getElem?.1 hq
         have:=hnd 0 (k+1) o0 q d rfl (by simpa using hk) hd qQ;omega)]
        exact ht2 d hd
      | succ j=>
        obtain ⟨R,v',c',e',k1,k2,k3,k4,k5,k6⟩:=Iw r t1 t' _ _ _ _ hr hnd' j o (by simpa using hj);refine ⟨R,v',c',e',k1,k2,k3,k4,fun d hd=>?_,fun i p d hi hp wU=>?_⟩
        ·rw [k5 d (fun i p hi hp=>hd (i+1) p (by omega) (by simpa using hp))];exact ht1 d (hd 0 o0 (by omega) rfl)
        ·cases i with
         | zero=>
           simp at hp;subst hp
           rw [k5 d (fun i q hi hq qQ=>by
            have:=hnd 0 (i+1) o0 q d rfl (by simpa using hq) wU qQ;omega)]
           rw [m3 d (fun q hq qQ=>by
            obtain ⟨k,hk⟩:=List.mem_iff_getElem?.1 hq
            have:=hnd 0 (k+1) o0 q d rfl (by simpa using hk) wU qQ;omega)]
         | succ i=>exact k6 i p d (by omega) (by simpa using hp) wU
     cases hd:o0.dst with
     | none=>
       rw [hd] at h;simp only at h;exact tail t h (fun _ _=>rfl) (fun d hh=>by rw [hd] at hh;cases hh)
     | some d0=>
       rw [hd] at h;simp only at h;cases hb:Nat.ble d0 8000 with
       | false=>rw [hb] at h;simp at h
       | true=>
         rw [hb] at h;simp only [cond_true] at h;have hle:=Nat.le_of_ble_eq_true hb;refine tail _ h (fun d hh=>?_) (fun d hh=>?_)
         ·rw [jA (by omega)]
          have:d≠d0:=fun e=>hh (by rw [hd,e])
          simp [jl,this]
         ·rw [jA (by omega)];rw [hd] at hh;injection hh with hh;subst hh;simp [jl]
theorem mem_ready {md:Region.Mode} {ops:Array Oper} {L:Array Bool} {i:Nat} (h:i∈Region.ready md ops L) :
 ∃o,ops[i]? = some o∧i < ops.size∧L.getD i true=false∧∀e∈o.after,Region.binds md e=true→L.getD e.on false=true:=by
 simp only [Region.ready,List.mem_filter,List.mem_range,Bool.and_eq_true,Bool.not_eq_true'] at h;obtain ⟨h1,h2,h3⟩:=h;have ho:ops[i]? = some ops[i]:=by simp [h1]
 rw [ho] at h3;simp only [Option.map_some,Option.getD_some] at h3;refine ⟨_,ho,h1,h2,fun e he hb=>?_⟩
 have:=Array.all_eq_true'.1 h3 e he
 simp only [Bool.or_eq_true,Bool.not_eq_true'] at this;rcases this with this | this
 ·rw [hb] at this;cases this
 ·exact this
theorem ready_nil {md:Region.Mode} {ops:Array Oper} {L:Array Bool} (hL:L.size=ops.size) (hed:∀(j:Nat) (o:Oper),ops[j]? = some o→∀e∈o.after,Region.binds md e=true→e.on < j)
 (h:Region.ready md ops L=[]):∀i,i < ops.size→L.getD i true=true:=by
 intro i;induction i using Nat.strongRecOn with
 | _ i ih=>
   intro hi;cases hl:L.getD i true with
   | true=>rfl
   | false=>
     exfalso;have ho:ops[i]? = some ops[i]:=by simp [hi]
     have:i∈Region.ready md ops L:=by
      simp only [Region.ready,List.mem_filter,List.mem_range,Bool.and_eq_true,Bool.not_eq_true'];refine ⟨hi,hl,?_⟩;rw [ho];simp only [Option.map_some,Option.getD_some];rw [Array.all_eq_true'];intro e he;cases hb:Region.binds md e with
      | false=>simp
      | true=>
        have hlt:=hed i _ ho e he hb
        have:=ih e.on hlt (by omega)
        have hlt2:e.on < L.size:=by omega
        simp [Array.getD,hlt2] at this;simp [Array.getD,hlt2,this]
     rw [h] at this;simp at this
open Classical in
noncomputable def bN (ops:Array Oper) (R0 R1:Nat→RV) (L:Array Bool) (t:Nat):RV:=
 if ∃i o,ops[i]? = some o∧o.dst=some t∧L.getD i false=true then R1 t else R0 t
theorem count_set {L:Array Bool} {i:Nat} (hi:i < L.size) (h:L.getD i true=false):(L.setIfInBounds i true).toList.countP (· == false)+1=L.toList.countP (· == false):=by
 rw [Array.toList_setIfInBounds];have hi' : i < L.toList.length:=by simpa using hi
 have hv:L.toList[i]=false:=by simpa [Array.getD,hi] using h
 clear h hi;generalize L.toList=l at *;induction l generalizing i with
 | nil=>simp at hi'
 | cons x l ih=>
   cases i with
   | zero=>simp at hv;subst hv;simp
   | succ i=>
     simp only [List.set_cons_succ,List.countP_cons]
     have:=ih (by simpa using hi') (by simpa using hv)
     omega
theorem lK {L:Array Bool} (h:L.toList.countP (· == false)=0):∀i,i < L.size→L.getD i true=true:=by
 intro i hi;have h1:=List.countP_eq_zero.1 h L[i] (by simp);cases e:L[i] with
 | true=>simp [Array.getD,hi,e]
 | false=>rw [e] at h1;simp at h1
theorem JK {cf:eu} (hcf:jI P cf) {ops:Array Oper} {ov:Ov} {s:bQ} {t t' : T RV} {cs:List Bool} {es:List (RV×RV)} {m:Nat} {κ0:bB} {w0:World} {φ0:bJ}
 (hq:iQ ops=true) (hg:dx s.n ops=true) (hs:s.R=aY t) (hrun:yF cf ops ov s.O ops.toList t [] []=some (t',cs,es)) (hc:∀c∈cs,c=true) (he:∀e∈es,iI e.1 e.2) :
 (∀(fuel:Nat) (L:Array Bool) (κ:bB) (φ:bJ) (w:World) (a:Act),L.size=ops.size→L.toList.countP (· == false)=fuel→
   (∀(j:Nat) (o:Oper),ops[j]? = some o→L.getD j false=true→∀e∈o.after,Region.binds .any e=true→L.getD e.on false=true)→aC κ φ w { s with R:=bN ops s.R (aY t') L } a→
   Fr κ0 w0 κ w→nS m φ0 s.O φ s.O→
   wpAny P .any ops (fun e a' w'=>e = .normal∧∃κ' φ',aC κ' φ' w' { s with R:=aY t' } a'∧Fr κ0 w0 κ' w'∧nS m φ0 s.O φ' s.O) fuel L a w):=by
 have hnd:∀(i j:Nat) (p q:Oper) (d:Nat),ops.toList[i]? = some p→ops.toList[j]? = some q→p.dst=some d→q.dst=some d→i=j:=by
  intro i j p q d hi hj hp qQ;rcases ((bX hq (j:=j) (o:=q) (by simpa using hj)).2 i p d (by simpa using hi) hp).1 with h | h
  ·exact h
  ·exact absurd qQ h
 have hat:=Iw ops.toList t t' [] cs [] es hrun hnd;have hout:=(qx ops.toList t t' [] cs [] es hrun).2.2
 have full:∀(L:Array Bool),L.size=ops.size→(∀i,i < ops.size→L.getD i true=true)→bN ops s.R (aY t') L=aY t':=by
  intro L hL hall;funext d;unfold bN;split
  ·rfl
  ·rename_i hne;rw [hs,hout d (fun o ho hd=>hne ?_)];obtain ⟨i,hi⟩:=List.mem_iff_getElem?.1 ho;have hi' : ops[i]? = some o:=by simpa using hi
   have hlt:=(Array.getElem?_eq_some_iff.1 hi').1;have hlt2:i < L.size:=by omega
   have:=hall i hlt
   exact ⟨i,o,hi',hd,by simp [Array.getD,hlt2] at this ⊢;exact this⟩
 intro fuel;induction fuel with
 | zero=>
   intro L κ φ w a hL hcnt hcl F hR hK;have hall:=lK hcnt;rw [full L hL (fun i hi=>hall i (by omega))] at F;refine ⟨?_,rfl,κ,φ,F,hR,hK⟩;cases hr:Region.ready .any ops L with
   | nil=>rfl
   | cons i r=>
     obtain ⟨o,_,h1,h2,_⟩:=mem_ready (md:=.any) (ops:=ops) (L:=L) (i:=i) (by rw [hr];simp);rw [hall i (by omega)] at h2;cases h2
 | succ fuel ih=>
   intro L κ φ w a hL hcnt hcl F hR hK;refine ⟨fun hr=>?_,fun j hj=>?_⟩
   ·have hall:=ready_nil hL (fun j o ho=>(bX hq ho).1) hr;rw [full L hL hall] at F;exact ⟨rfl,κ,φ,F,hR,hK⟩
   ·obtain ⟨o,ho,hjn,hlj,iJ⟩:=mem_ready hj;obtain ⟨R,v,c,e,k1,k2,k3,k4,k5,k6⟩:=hat j o (by simpa using ho);obtain ⟨s1,s2⟩:=bX hq ho
    have same:∀d,d∈looks o ops→bN ops s.R (aY t') L d=R d:=by
     intro d hd;by_cases hw:∃(i:Nat) (p:Oper),ops[i]? = some p∧p.dst=some d
     ·obtain ⟨i,p,hi,hp⟩:=hw;rcases (s2 i p d hi hp).2 hd with ⟨hij,ed,he1,he2,yE⟩ | ⟨hij,ed,he1,he2,yE⟩
      ·have Pm:L.getD i false=true:=by rw [←he2];exact iJ ed he1 yE
       unfold bN;rw [if_pos ⟨i,p,hi,hp,Pm⟩];exact (k6 i p d hij (by simpa using hi) hp).symm
      ·have pq:L.getD j false=false:=by
        have:j < L.size:=by omega
        simp [Array.getD,this] at hlj ⊢;exact hlj
       have only:∀(i' : Nat) (p' : Oper),ops[i']? = some p'→p'.dst=some d→i'=i:=fun i' p' h1 h2=>hnd i' i p' p d (by simpa using h1) (by simpa using hi) h2 hp;unfold bN
       rw [if_neg (fun ⟨i',p',h1,h2,h3⟩=>by
        have e:=only i' p' h1 h2;subst e;rw [h1] at hi;injection hi with hi;subst hi
        have:=hcl i' p' h1 h3 ed he1 yE
        rw [he2,pq] at this;cases this),hs]
       exact (k5 d (fun i' p' h0 h1 h2=>by have:=only i' p' (by simpa using h1) h2;omega)).symm
     ·unfold bN;rw [if_neg (fun ⟨i,p,hi,hp,_⟩=>hw ⟨i,p,hi,hp⟩),hs];exact (k5 d (fun i p _ hp wU=>hw ⟨i,p,by simpa using hp,wU⟩)).symm
    have LG:kL cf ops ov (bN ops s.R (aY t') L) s.O o=some (v,c,e):=by
     rw [←k1]
     have h1:guardOf (bN ops s.R (aY t') L) ops o=guardOf R ops o:=by
      unfold guardOf;cases hgu:o.guard with
      | none=>rfl
      | some p=>
        obtain ⟨g,want⟩:=p;simp only;cases hog:ops[g]? with
        | none=>rfl
        | some gg=>
          simp only;cases hgd:gg.dst with
          | none=>rfl
          | some d=>
            simp only;rw [same d (by simp only [looks,List.mem_append];right;rw [hgu];simp only [hog,hgd];simp)]
     have h2:mR cf (bN ops s.R (aY t') L) s.O 0 o=mR cf R s.O 0 o:=og fun x hx=>lJ fun d hd=>by
      subst hd;refine same d ?_;simp only [looks,List.mem_append,List.mem_filterMap];left;exact ⟨.tmp d,by simpa using hx,rfl⟩
     unfold kL;rw [h1,h2]
    refine Cn hcf F LG (fun x hx=>hc x (k2 x hx)) (fun x hx=>he x (k3 x hx)) ho (bZ hg) (fun a' w' κ' φ' g1 g2 g3=>?_)
    have hset:jc (bN ops s.R (aY t') L) o.dst v=bN ops s.R (aY t') (L.setIfInBounds j true):=by
     funext d
     have hget:∀i,(L.setIfInBounds j true).getD i false=if i=j then true else L.getD i false:=by
      intro i;simp only [Array.getD_eq_getD_getElem?,Array.getElem?_setIfInBounds];by_cases e:i=j
      ·subst e;have:i < L.size:=by omega
       simp [this]
      ·have:¬j=i:=fun h=>e h.symm
       simp [e,this]
     cases hd:o.dst with
     | none=>
       simp only [jc];unfold bN;congr 1;apply propext;constructor
       ·rintro ⟨i,p,h1,h2,h3⟩
        exact ⟨i,p,h1,h2,by rw [hget];split;rfl;exact h3⟩
       ·rintro ⟨i,p,h1,h2,h3⟩
        rw [hget] at h3;by_cases e:i=j
        ·subst e;rw [ho] at h1;injection h1 with h1;subst h1;rw [hd] at h2;cases h2
        ·rw [if_neg e] at h3;exact ⟨i,p,h1,h2,h3⟩
     | some d0=>
       simp only [jc,jl];by_cases e0:d=d0
       ·subst e0;rw [if_pos rfl];unfold bN;rw [if_pos ⟨j,o,ho,hd,by rw [hget];simp⟩,k4 d hd]
       ·rw [if_neg e0];unfold bN;congr 1;apply propext;constructor
        ·rintro ⟨i,p,h1,h2,h3⟩
         exact ⟨i,p,h1,h2,by rw [hget];split;rfl;exact h3⟩
        ·rintro ⟨i,p,h1,h2,h3⟩
         rw [hget] at h3;by_cases e:i=j
         ·subst e;rw [ho] at h1;injection h1 with h1;subst h1;rw [hd] at h2;injection h2 with h2;exact absurd h2.symm e0
         ·rw [if_neg e] at h3;exact ⟨i,p,h1,h2,h3⟩
    have g1' : aC κ' φ' w' { s with R:=bN ops s.R (aY t') (L.setIfInBounds j true) } a':=by rw [←hset];exact g1
    have hc2:=count_set (L:=L) (i:=j) (by omega) hlj
    have hget:∀i,(L.setIfInBounds j true).getD i false=if i=j then true else L.getD i false:=by
     intro i;simp only [Array.getD_eq_getD_getElem?,Array.getElem?_setIfInBounds];by_cases e:i=j
     ·subst e;have:i < L.size:=by omega
      simp [this]
     ·have:¬j=i:=fun h=>e h.symm
      simp [e,this]
    have hcl' : ∀(j' : Nat) (o' : Oper),ops[j']? = some o'→(L.setIfInBounds j true).getD j' false=true→∀e∈o'.after,Region.binds .any e=true→(L.setIfInBounds j true).getD e.on false=true:=by
     intro j' o' ho' hl' e he' hb';rw [hget] at hl' ⊢;split
     ·rfl
     ·by_cases ej:j'=j
      ·subst ej;rw [ho] at ho';injection ho' with ho';subst ho';exact iJ e he' hb'
      ·rw [if_neg ej] at hl';exact hcl j' o' ho' hl' e he' hb'
    exact ih (L.setIfInBounds j true) κ' φ' w' a' (by simpa using hL) (by omega) hcl' g1' (hR.trans g2) (hK.trans (g3.m m))
end Go.Am
