/-
  Texts that the claim leans on: AmOp, AmRun, AmWk, AmDraw.
-/
import Derived.Test.YtjoefbioobdinaaGreatDoorwd
import Derived.Scope
namespace Go.Am
set_option linter.unusedSectionVars false
variable {P:Program} [Gl]
def KN:RV→Bool
 | .own _ _=>true
 | .sub _ _ _ _=>true
 | _=>false
def iW (O:Tab) (v:RV):Option (RV×List (Nat×av)×List Bool):=
 bif KN v then match iq O v with
  | some (x,u,c)=>some (.d x,u,c)
  | none=>none
 else some (v,[],[])
def fV (O:Tab):List RV→Option (List RV×List (Nat×av)×List Bool)
 | []=>some ([],[],[])
 | v::r=>match iW O v,fV O r with
   | some (x,u,c),some (l,u',c')=>some (x::l,u++u',c++c')
   | _,_=>none
def mJ (O:Tab):RV→Option (RV×List (Nat×av)×List Bool)
 | .agg cs=>match fV O cs with
   | some (l,u,c)=>some (qU l,u,c)
   | none=>none
 | v=>iW O v
def eZ (O:Tab):List RV→Option (List RV×List (Nat×av)×List Bool)
 | []=>some ([],[],[])
 | v::r=>match mJ O v,eZ O r with
   | some (x,u,c),some (l,u',c')=>some (x::l,u++u',c++c')
   | _,_=>none
theorem vW {κ:bE} {φ:bP} {w:World} {s:cu} {a:Act} (F:aA κ φ w s a) {O0:Tab} (hf:ku O0 s.O) {x y:RV} {v:Value}
 {u:List (Nat×av)} {c:List Bool} (hx:iW O0 x=some (y,u,c)) (hc:∀b∈c,b=true) (r:bJ κ φ s.O w.heap x v) :
 ∃κ',aA κ' φ w { s with O:=aX s.O u } a∧dS κ φ s.O w.heap κ' φ (aX s.O u) w.heap∧Fr κ w κ' w∧ku O0 (aX s.O u)∧bJ κ' φ (aX s.O u) w.heap y v:=by
 unfold iW at hx;cases ho:KN x with
 | false=>
   rw [ho] at hx;simp only [cond_false,Option.some.injEq,Prod.mk.injEq] at hx;obtain ⟨rfl,rfl,rfl⟩:=hx;exact ⟨κ,F,dS.refl _ _ _ _,Fr.refl _ _,hf,r⟩
 | true=>
   rw [ho] at hx;simp only [cond_true] at hx;cases ht:iq O0 x with
   | none=>rw [ht] at hx;simp at hx
   | some p=>
     obtain ⟨d,u',c'⟩:=p;rw [ht] at hx;simp only [Option.some.injEq,Prod.mk.injEq] at hx;obtain ⟨rfl,rfl,rfl⟩:=hx;obtain ⟨κ',h1,h2,h3,h4,h5⟩:=uK F hf ht hc r;exact ⟨κ',h1,h2,h3,h4,.d h5⟩
theorem BH {O0:Tab}:∀{κ:bE} {φ:bP} {w:World} {s:cu} {a:Act} (_:aA κ φ w s a) (_:ku O0 s.O) {xs ys:List RV} {vs:List Value}
 {u:List (Nat×av)} {c:List Bool} (_:fV O0 xs=some (ys,u,c)) (_:∀b∈c,b=true) (_:vs.length=xs.length)
 (_:∀(i:Nat) (x:RV) (v:Value),xs[i]? = some x→vs[i]? = some v→bJ κ φ s.O w.heap x v),
 ∃κ',aA κ' φ w { s with O:=aX s.O u } a∧dS κ φ s.O w.heap κ' φ (aX s.O u) w.heap∧Fr κ w κ' w∧ku O0 (aX s.O u)∧
  ys.length=xs.length∧∀(i:Nat) (y:RV) (v:Value),ys[i]? = some y→vs[i]? = some v→bJ κ' φ (aX s.O u) w.heap y v:=by
 intro κ φ w s a F hf xs;induction xs generalizing κ s with
 | nil=>
   intro ys vs u c hx _ _ _;simp only [fV,Option.some.injEq,Prod.mk.injEq] at hx;obtain ⟨rfl,rfl,rfl⟩:=hx;exact ⟨κ,F,dS.refl _ _ _ _,Fr.refl _ _,hf,rfl,by simp⟩
 | cons x xs ih=>
   intro ys vs u c hx hc hl hr;simp only [fV] at hx;cases h1:iW O0 x with
   | none=>rw [h1] at hx;simp at hx
   | some p1=>
     obtain ⟨y,u1,c1⟩:=p1;cases h2:fV O0 xs with
     | none=>rw [h1,h2] at hx;simp at hx
     | some p2=>
       obtain ⟨l,u2,c2⟩:=p2;rw [h1,h2] at hx;simp only [Option.some.injEq,Prod.mk.injEq] at hx;obtain ⟨rfl,rfl,rfl⟩:=hx;cases vs with
       | nil=>simp at hl
       | cons v vs=>
         obtain ⟨κ1,F1,M1,R1,f1,d1⟩:=vW F hf h1 (fun b hb=>hc b (by simp [hb])) (hr 0 x v rfl rfl)
         obtain ⟨κ2,F2,M2,R2,f2,l2,d2⟩:=ih F1 f1 h2 (fun b hb=>hc b (by simp [hb])) (vs:=vs) (by simpa using hl)
          (fun i x' v' hx' hv'=>(hr (i+1) x' v' (by simpa using hx') (by simpa using hv')).mono M1)
         refine ⟨κ2,?_,?_,R1.trans R2,?_,by simp [l2],?_⟩
         ·rw [bL];exact F2
         ·rw [bL];exact M1.trans M2
         ·rw [bL];exact f2
         ·rw [bL];intro i y' v' hy' hv';cases i with
          | zero=>simp at hy' hv';subst hy';subst hv';exact d1.mono M2
          | succ i=>exact d2 i y' v' (by simpa using hy') (by simpa using hv')
theorem Jf {κ:bE} {φ:bP} {w:World} {s:cu} {a:Act} (F:aA κ φ w s a) {O0:Tab} (hf:ku O0 s.O) {x y:RV} {v:Value}
 {u:List (Nat×av)} {c:List Bool} (hx:mJ O0 x=some (y,u,c)) (hc:∀b∈c,b=true) (r:bJ κ φ s.O w.heap x v) :
 ∃κ',aA κ' φ w { s with O:=aX s.O u } a∧dS κ φ s.O w.heap κ' φ (aX s.O u) w.heap∧Fr κ w κ' w∧ku O0 (aX s.O u)∧bJ κ' φ (aX s.O u) w.heap y v:=by
 by_cases hag:∃cs,x = .agg cs
 ·obtain ⟨cs,rfl⟩:=hag;simp only [mJ] at hx;cases h1:fV O0 cs with
  | none=>rw [h1] at hx;simp at hx
  | some p=>
    obtain ⟨l,u1,c1⟩:=p;rw [h1] at hx;simp only [Option.some.injEq,Prod.mk.injEq] at hx;obtain ⟨rfl,rfl,rfl⟩:=hx;cases r with
    | agg hl hs hr=>
      rename_i vs;obtain ⟨κ',h2,h3,h4,h5,h6,h8⟩:=BH F hf h1 hc (vs:=vs.toList) (by simpa using hl) (fun i x v hx hv=>hr i x v hx (by simpa using hv));exact ⟨κ',h2,h3,h4,h5,mZ (by omega) hs (fun i y v hy hv=>h8 i y v hy (by simpa using hv))⟩
 ·have:mJ O0 x=iW O0 x:=by cases x<;>first | rfl | exact absurd ⟨_,rfl⟩ hag
  rw [this] at hx;exact vW F hf hx hc r
theorem rQ {O0:Tab}:∀{κ:bE} {φ:bP} {w:World} {s:cu} {a:Act} (_:aA κ φ w s a) (_:ku O0 s.O) {xs ys:List RV} {vs:List Value}
 {u:List (Nat×av)} {c:List Bool} (_:eZ O0 xs=some (ys,u,c)) (_:∀b∈c,b=true) (_:vs.length=xs.length)
 (_:∀(i:Nat) (x:RV) (v:Value),xs[i]? = some x→vs[i]? = some v→bJ κ φ s.O w.heap x v),
 ∃κ',aA κ' φ w { s with O:=aX s.O u } a∧dS κ φ s.O w.heap κ' φ (aX s.O u) w.heap∧Fr κ w κ' w∧ku O0 (aX s.O u)∧
  ys.length=xs.length∧∀(i:Nat) (y:RV) (v:Value),ys[i]? = some y→vs[i]? = some v→bJ κ' φ (aX s.O u) w.heap y v:=by
 intro κ φ w s a F hf xs;induction xs generalizing κ s with
 | nil=>
   intro ys vs u c hx _ _ _;simp only [eZ,Option.some.injEq,Prod.mk.injEq] at hx;obtain ⟨rfl,rfl,rfl⟩:=hx;exact ⟨κ,F,dS.refl _ _ _ _,Fr.refl _ _,hf,rfl,by simp⟩
 | cons x xs ih=>
   intro ys vs u c hx hc hl hr;simp only [eZ] at hx;cases h1:mJ O0 x with
   | none=>rw [h1] at hx;simp at hx
   | some p1=>
     obtain ⟨y,u1,c1⟩:=p1;cases h2:eZ O0 xs with
     | none=>rw [h1,h2] at hx;simp at hx
     | some p2=>
       obtain ⟨l,u2,c2⟩:=p2;rw [h1,h2] at hx;simp only [Option.some.injEq,Prod.mk.injEq] at hx;obtain ⟨rfl,rfl,rfl⟩:=hx;cases vs with
       | nil=>simp at hl
       | cons v vs=>
         obtain ⟨κ1,F1,M1,R1,f1,d1⟩:=Jf F hf h1 (fun b hb=>hc b (by simp [hb])) (hr 0 x v rfl rfl)
         obtain ⟨κ2,F2,M2,R2,f2,l2,d2⟩:=ih F1 f1 h2 (fun b hb=>hc b (by simp [hb])) (vs:=vs) (by simpa using hl)
          (fun i x' v' hx' hv'=>(hr (i+1) x' v' (by simpa using hx') (by simpa using hv')).mono M1)
         refine ⟨κ2,?_,?_,R1.trans R2,?_,by simp [l2],?_⟩
         ·rw [bL];exact F2
         ·rw [bL];exact M1.trans M2
         ·rw [bL];exact f2
         ·rw [bL];intro i y' v' hy' hv';cases i with
          | zero=>simp at hy' hv';subst hy';subst hv';exact d1.mono M2
          | succ i=>exact d2 i y' v' (by simpa using hy') (by simpa using hv')
def RV.refs:Nat→RV→List Nat
 | 0,_=>[]
 | n+1,x=>
   match x with
   | .ptr i _=>[i]
   | .gU i _ _ _=>[i]
   | .own i _=>[i]
   | .sub i _ _ _=>[i]
   | .sl i _ _ _ _=>[i]
   | .map i=>[i]
   | .gI _ fs cs=>fs.flatMap (RV.refs n)++cs.flatMap (RV.refs n)
   | .agg cs=>cs.flatMap (RV.refs n)
   | .bn cs=>cs.flatMap (RV.refs n)
   | _=>[]
def sS:Option av→List Nat
 | some (.box _ cs)=>cs.flatMap (RV.refs 6)
 | some (.bW _ cs)=>cs.flatMap (RV.refs 6)
 | some (.NT m)=>[m]
 | _=>[]
def reach (O:Tab):Nat→List Nat→List Nat→List Nat
 | 0,_,done=>done
 | _,[],done=>done
 | n+1,i::todo,done=>bif done.any (fun j=>Nat.beq j i) then reach O n todo done else reach O n (todo++sS (O i)) (done++[i])
def news (sl n:Nat):List Nat:=(List.range n).map (sl + ·)
abbrev uD:=Nat→List RV→List av→Option (RV×List av×List Bool)
def aZ (P:Program) (K:uD):Prop:=∀f args objs r bS c,K f args objs=some (r,bS,c)→(∀b∈c,b=true)→C P f args objs (fun r2 o2=>r2=r∧o2=bS)
def iA (K:uD) (dD:Bool) (O:Tab) (sl f:Nat) (args:List RV):Option dz:=
 match (bif dD then some (args,[],[]) else eZ O args) with
 | none=>none
 | some (args1,u,c)=>
   let ps:=reach (aX O u) 400 (args1.flatMap (RV.refs 6)) []
   match eG (RV.ren (fun i=>idx i ps 0) 6) args1,eG (fun i=>match aX O u i with | some p=>p.ren (fun i=>idx i ps 0) | none=>none) ps with
   | some args2,some objs=>match K f args2 objs with
     | some (r,bS,c2)=>
       let nw:=news sl (bS.length-ps.length)
       bif nodupB ps&&nodupB (ps++nw)&&Nat.ble ps.length bS.length&&nw.all (fun i=>(aX O u i).isNone) then
        match eG (av.ren (fun j=>(ps++nw)[j]?)) bS,RV.ren (fun j=>(ps++nw)[j]?) 6 r with
        | some fF,some r''=>some { val:=r'',upd:=u++sO (ps++nw) fF,conds:=c++c2 }
        | _,_=>none
       else none
     | none=>none
   | _,_=>none
theorem xW {κ:bE} {φ:bP} {w:World} {s:cu} {a:Act} (F:aA κ φ w s a) {K:uD} (hK:aZ P K) {dD:Bool} {sl f:Nat} {args:List RV} {vs:Array Value} {res:dz}
 (hx:iA K dD s.O sl f args=some res) (hc:∀b∈res.conds,b=true) (hl:vs.size=args.length)
 (hr:∀(i:Nat) (x:RV) (v:Value),args[i]? = some x→vs[i]? = some v→bJ κ φ s.O w.heap x v) :
 Calls P f vs w fun e w'=>∃v κ' φ',e = .returned v∧aA κ' φ' w' { s with O:=aX s.O res.upd } a∧bJ κ' φ' (aX s.O res.upd) w'.heap res.val v∧Fr κ w κ' w'∧Kp φ s.O φ' (aX s.O res.upd):=by
 unfold iA at hx;cases hp:(bif dD then some (args,[],[]) else eZ s.O args) with
 | none=>rw [hp] at hx;simp at hx
 | some p3=>
   obtain ⟨args1,u,c⟩:=p3;rw [hp] at hx;simp only at hx;generalize hps:reach (aX s.O u) 400 (args1.flatMap (RV.refs 6)) []=ps at hx;cases h1:eG (RV.ren (fun i=>idx i ps 0) 6) args1 with
   | none=>rw [h1] at hx;simp at hx
   | some args2=>
     cases h2:eG (fun i=>match aX s.O u i with | some p=>p.ren (fun i=>idx i ps 0) | none=>none) ps with
     | none=>rw [h1,h2] at hx;simp at hx
     | some objs=>
       rw [h1,h2] at hx;simp only at hx;cases h3:K f args2 objs with
       | none=>rw [h3] at hx;simp at hx
       | some q3=>
         obtain ⟨r,bS,c2⟩:=q3;rw [h3] at hx;simp only at hx;cases hg:(nodupB ps&&nodupB (ps++news sl (bS.length-ps.length))&&Nat.ble ps.length bS.length&&(news sl (bS.length-ps.length)).all (fun i=>(aX s.O u i).isNone)) with
         | false=>rw [hg] at hx;simp at hx
         | true=>
           rw [hg] at hx;simp only [cond_true] at hx;simp only [Bool.and_eq_true] at hg;obtain ⟨⟨⟨g0,g1⟩,g2⟩,g3⟩:=hg;have g2:=Nat.le_of_ble_eq_true g2;cases h4:eG (av.ren (fun j=>(ps++news sl (bS.length-ps.length))[j]?)) bS with
           | none=>rw [h4] at hx;simp at hx
           | some fF=>
             cases h5:RV.ren (fun j=>(ps++news sl (bS.length-ps.length))[j]?) 6 r with
             | none=>rw [h4,h5] at hx;simp at hx
             | some r''=>
               rw [h4,h5] at hx;simp only [Option.some.injEq] at hx;subst hx;simp only at hc
               have pre:∃κ1,aA κ1 φ w { s with O:=aX s.O u } a∧dS κ φ s.O w.heap κ1 φ (aX s.O u) w.heap∧Fr κ w κ1 w∧args1.length=args.length∧
                ∀(i:Nat) (x:RV) (v:Value),args1[i]? = some x→vs[i]? = some v→bJ κ1 φ (aX s.O u) w.heap x v:=by
                cases dD with
                | true=>
                  simp only [cond_true,Option.some.injEq,Prod.mk.injEq] at hp;obtain ⟨rfl,rfl,rfl⟩:=hp;exact ⟨κ,F,dS.refl _ _ _ _,Fr.refl _ _,rfl,hr⟩
                | false=>
                  simp only [cond_false] at hp;obtain ⟨κ1,q1,q2,q3,_,q5,q6⟩:=rQ F (ku.refl _) hp (fun b hb=>hc b (by simp [hb])) (vs:=vs.toList) (by simpa using hl) (fun i x v hx hv=>hr i x v hx (by simpa using hv));exact ⟨κ1,q1,q2,q3,q5,fun i x v hx hv=>q6 i x v hx (by simpa using hv)⟩
               obtain ⟨κ1,F1,M1,R1,l1,hr1⟩:=pre;have hC:=hK f args2 objs r bS c2 h3 (fun b hb=>hc b (by simp [hb]));refine (I6 F1 (ps:=ps) g0 h1 h2 hC (by omega) hr1).mono ?_
               rintro e w' ⟨v,r',o',rfl,⟨rfl,rfl⟩,hle,hfin⟩
               have hnl:(news sl (o'.length-ps.length)).length=o'.length-ps.length:=by simp [news]
               obtain ⟨κ',φ',f1,f2,f3,f4⟩:=hfin (ps++news sl (o'.length-ps.length)) r'' fF (by rw [List.length_append,hnl];omega) g1 (by simp)
                (fun i hi=>by
                  rw [List.drop_left] at hi
                  have:=List.all_eq_true.1 g3 i hi
                  simpa using this) h4 h5
               exact ⟨v,κ',φ',rfl,by rw [bL];exact f1,by rw [bL];exact f2,R1.trans f3,by rw [bL];exact M1.kp.trans f4⟩
def ql (diff:Bool) (K:uD) (dD:Bool) (O:Tab) (sl f:Nat) (args:List RV):Option dz:=
 match diff with
 | false=>iA K dD O sl f args
 | true=>match iA K dD O sl f args with
   | some res=>bif nodupB (res.upd.map (·.1)) then some { res with upd:=nE O res.upd } else none
   | none=>none
theorem KO {κ:bE} {φ:bP} {w:World} {s:cu} {a:Act} (F:aA κ φ w s a) {K:uD} (hK:aZ P K) {diff dD:Bool} {sl f:Nat} {args:List RV} {vs:Array Value} {res:dz}
 (hx:ql diff K dD s.O sl f args=some res) (hc:∀b∈res.conds,b=true) (hl:vs.size=args.length)
 (hr:∀(i:Nat) (x:RV) (v:Value),args[i]? = some x→vs[i]? = some v→bJ κ φ s.O w.heap x v) :
 Calls P f vs w fun e w'=>∃v κ' φ',e = .returned v∧aA κ' φ' w' { s with O:=aX s.O res.upd } a∧bJ κ' φ' (aX s.O res.upd) w'.heap res.val v∧Fr κ w κ' w'∧Kp φ s.O φ' (aX s.O res.upd):=by
 unfold ql at hx;cases diff with
 | false=>exact xW F hK hx hc hl hr
 | true=>
   simp only at hx;cases h:iA K dD s.O sl f args with
   | none=>rw [h] at hx;simp at hx
   | some r0=>
     rw [h] at hx;simp only at hx;cases hn:nodupB (r0.upd.map (·.1)) with
     | false=>rw [hn] at hx;simp at hx
     | true=>
       rw [hn] at hx;simp only [cond_true,Option.some.injEq] at hx;subst hx
       have:=xW F hK h hc hl hr
       simp only [zk hn];exact this
def eH (P:Program) (f:Nat):Bool:=
 match P.funcs[f]? with
 | some fn=>fn.body.isSome&&(fn.name != "runtime.NumGoroutine")
 | none=>false
theorem sU {f:Nat} (h:eH P f=true) (vs:Array Value) (w:World):(callFunc f vs).run P w = .ok (.enter f vs) w:=by
 unfold eH at h;cases hf:P.funcs[f]? with
 | none=>rw [hf] at h;simp at h
 | some fn=>
   rw [hf] at h;simp only [Bool.and_eq_true,bne_iff_ne] at h;simp only [callFunc,Sem.run_bind,run_program,Result.andThen_ok,hf];have h1:(fn.name == "runtime.NumGoroutine")=false:=by simpa using h.2
   have h2:fn.body.isNone=false:=by cases e:fn.body<;>simp_all
   simp [h1,h2]
structure dX where
 E:Env
 K:uD
 dD:Nat→Bool
 eH:Nat→Bool
 vm:Bool:=false
 diff:Bool:=false
def FJ (c a b:RV):Option dz:=
 match c with
 | .d (.bool c)=>match a,b with
   | .d (.bool x),.d (.bool y)=>some { val:=.d (.bool (bif c then x else y)) }
   | x,y=>some { val:=bif c then x else y }
 | _=>none
def QB (x:RV):Option dz:=
 match x with
 | .ptr i o=>some { val:=.ptr i o }
 | .gU i sz idx o=>some { val:=.gU i sz idx o }
 | .bB y o=>some { val:=.bB y o }
 | .gI (.func f) fs cs=>some { val:=.gI (.func f) fs cs }
 | _=>none
def jQ (O:Tab) (fn:Fn) (first caps:List RV):Option dz:=
 match eZ O (first++caps) with
 | some (l,u,c)=>some { val:=.gI fn (l.take first.length) (l.drop first.length),upd:=u,conds:=c }
 | none=>none
def kg:Option TypeDesc→Bool
 | some (.int _)=>false
 | some _=>true
 | none=>false
def uQ (cf:dX) (O:Tab) (sl:Nat) (b:Builtin) (tys:List Nat) (args:List RV):Option dz:=
 match b,tys,args with
 | .len,[t],[x]=>zL cf.E O t x
 | .append,[t,t2],[x,y]=>bif kg (cf.E.und t2) then mY cf.E O sl t x y else none
 | .min,_,[x,y]=>sK true x y
 | .max,_,[x,y]=>sK false x y
 | .delete,[t,_],[x,y]=>ny cf.E O t x y
 | .clear,[t],[x]=>qb cf.E O t x
 | _,_,_=>none
def sV (cf:dX) (R:Nat→RV) (O:Tab) (sl:Nat) (o:Oper):Option (dz×Bool):=
 let val (r:Option dz):Option (dz×Bool):=match r with
  | some r=>some (r,false)
  | none=>none
 match o.op with
 | .move x=>some ({ val:=aN R x },false)
 | .assign x=>some ({ val:=aN R x },false)
 | .pick c a b=>val (FJ (aN R c) (aN R a) (aN R b))
 | .alloc t=>match cf.E.zero t with
   | some z=>val (pW cf.E O sl t (.d z))
   | none=>none
 | .box t x=>val (pW cf.E O sl t (aN R x))
 | .build t parts=>val (Bf cf.E t (parts.toList.map fun p=>(p.1,aN R p.2)))
 | .buildSlice t n parts=>val (iN cf.E O sl t n (parts.toList.map fun p=>(p.1,aN R p.2)))
 | .load t x=>val (mF cf.E O t (aN R x))
 | .store t x y=>match lV cf.E O t (aN R x) (aN R y) with
   | some r=>some ({ r with val:=.bot },true)
   | none=>none
 | .nilCheck x=>val (QB (aN R x))
 | .binOp op t x y _=>val (uG cf.E O op t (aN R x) (aN R y))
 | .unOp op _ x=>val (Q8 op (aN R x))
 | .convert s d x=>val (uH cf.E O sl s d (aN R x))
 | .slice t x lo hi mx=>val (pY cf.E O t (aN R x) (lo.map (aN R)) (hi.map (aN R)) (mx.map (aN R)))
 | .fieldAddr t x f=>val (oN cf.E t (aN R x) f)
 | .field t x f=>val (Bg cf.E t (aN R x) f)
 | .indexAddr t x i=>val (jr cf.E O t (aN R x) (aN R i))
 | .index t x i=>val (Bh cf.E t (aN R x) (aN R i))
 | .extract x i=>val (uI (aN R x) i)
 | .makeFunc fn first caps=>val (jQ O fn (first.toList.map (aN R)) (caps.toList.map (aN R)))
 | .makeSlice t l c=>val (lW cf.E O sl t (aN R l) (aN R c))
 | .makeMap _ h=>val (nk O sl (h.map (aN R)))
 | .lookup t x i ok=>val (nu cf.E O t (aN R x) (aN R i) ok)
 | .mapUpdate t m k v=>match gV cf.E O t (aN R m) (aN R k) (aN R v) with
   | some r=>some ({ r with val:=.bot },true)
   | none=>none
 | .call c=>match c.callee with
   | .builtin b=>val (uQ cf O sl b c.argTypes.toList (c.args.toList.map (aN R)))
   | .value f=>match aN R f with
     | .gI (.func g) first caps=>bif cf.eH g then val (ql cf.diff cf.K (cf.dD g) O sl g (first++c.args.toList.map (aN R)++caps)) else none
     | _=>none
   | _=>none
 | _=>none
def isConst:Operand→Bool
 | .const _=>true
 | _=>false
def BI (E:Env) (op:BinOp) (t:Nat) (x y:RV):Option dz:=
 match E.und t,x,y with
 | some (.interface _),.d .xk,.d .xk=>match wD op true with
   | some v=>some { val:=v }
   | none=>none
 | _,_,_=>none
def nH (r:Option dz):Option (dz×Bool):=
 match r with
 | some r=>some (r,false)
 | none=>none
def Y8 (x y:Int):Int:=if y > x then y else x
def FK (x y z u:RV):Option dz:=
 match x,y,z,u with
 | .d (.int k a),.d (.int _ b),.d (.int _ c),.d (.int _ d)=>some { val:=.d (.int k (Y8 (Y8 (Y8 a b) c) d)) }
 | _,_,_,_=>none
def KP (E:Env) (t:Nat) (x:RV):Option dz:=
 match E.und t,x with
 | some (.array n _),.sl i _ o len _=>bif Nat.ble 1 n&&Nat.ble n len then some { val:=.ptr i o } else none
 | _,_=>none
def rR (E:Env) (O:Tab) (sl:Nat) (b:Builtin) (tys:List Nat) (args:List RV):Option dz:=
 match b,tys,args with
 | .len,[t],[x]=>Fx E t x
 | .cap,[t],[x]=>Fy E t x
 | .append,[t,t2],[x,y]=>bif kg (E.und t2) then kW E O sl t x y else none
 | .copy,[t,_],[x,y]=>qg E O t x y
 | .clear,[t],[x]=>nD E O t x
 | .max,_,[x,y,z,u]=>FK x y z u
 | _,_,_=>none
def sW (cf:dX) (R:Nat→RV) (O:Tab) (sl:Nat) (o:Oper):Option (dz×Bool):=
 match o.op with
 | .alloc t=>match cf.E.zero t with
   | some z=>nH (nA cf.E O sl t (.d z))
   | none=>none
 | .box t x=>nH (nA cf.E O sl t (aN R x))
 | .buildSlice t n parts=>nH (jZ cf.E O sl t n (parts.toList.map fun p=>(p.1,aN R p.2)))
 | .load t x=>nH (qd cf.E O t (aN R x))
 | .store t x y=>match kF cf.E O t (aN R x) (aN R y) with
   | some r=>some ({ r with val:=.bot },true)
   | none=>none
 | .binOp op t x y _=>match xS cf.E op t (aN R x) (aN R y) with
   | some r=>some (r,false)
   | none=>bif isConst y then nH (BI cf.E op t (aN R x) (aN R y)) else none
 | .convert s d x=>nH (qh cf.E O sl s d (aN R x))
 | .slice t x lo hi mx=>nH (nC cf.E O t (aN R x) (lo.map (aN R)) (hi.map (aN R)) (mx.map (aN R)))
 | .indexAddr t x i=>nH (nU cf.E t (aN R x) (aN R i))
 | .makeFunc fn first caps=>some ({ val:=.gI fn (first.toList.map (aN R)) (caps.toList.map (aN R)) },false)
 | .makeSlice t l c=>nH (kS cf.E O sl t (aN R l) (aN R c))
 | .range t x=>nH (wX cf.E O sl t (aN R x))
 | .next x str=>nH (BG O (aN R x) str)
 | .sliceToArrayPointer t x=>nH (KP cf.E t (aN R x))
 | .call c=>match c.callee with
   | .builtin b=>nH (rR cf.E O sl b c.argTypes.toList (c.args.toList.map (aN R)))
   | _=>none
 | _=>none
def QC:RV→Bool
 | .sl _ _ _ _ _=>true
 | .d (.aC 0 [] true)=>true
 | .ptr _ _=>true
 | _=>false
def Y9:RV→Bool
 | .bB _ _=>false
 | _=>true
def Za:RV→Bool
 | .d (.aC _ (_::_) _)=>false
 | _=>true
def VJ (E:Env) (R:Nat→RV) (o:Oper):Bool:=
 match o.op with
 | .alloc _=>true
 | .box _ _=>true
 | .buildSlice _ _ _=>true
 | .load _ x=>Y9 (aN R x)
 | .store _ _ _=>true
 | .makeFunc _ _ _=>true
 | .makeSlice _ _ _=>true
 | .range _ _=>true
 | .next _ _=>true
 | .sliceToArrayPointer _ _=>true
 | .slice _ x _ _ _=>QC (aN R x)
 | .indexAddr _ x _=>Za (aN R x)
 | .binOp op t x y _=>match xS E op t (aN R x) (aN R y) with
   | some _=>true
   | none=>isConst y&&(BI E op t (aN R x) (aN R y)).isSome
 | .convert s d x=>match E.und s,E.und d,aN R x with
   | _,some (.slice _),_=>true
   | some (.slice _),some .string,_=>true
   | _,_,_=>false
 | .call c=>match c.callee with
   | .builtin b=>match b,c.args.toList.map (aN R) with
     | .len,[.sl _ _ _ _ _]=>true
     | .cap,_=>true
     | .append,_=>true
     | .copy,_=>true
     | .clear,[x]=>QC x
     | .max,[_,_,_,_]=>true
     | _,_=>false
   | _=>false
 | _=>false
def isIt (o:Oper):Bool:=match o.op with
 | .range _ _=>true
 | .next _ _=>true
 | _=>false
def mK (cf:dX) (R:Nat→RV) (O:Tab) (sl:Nat) (o:Oper):Option (dz×Bool):=
 bif (cf.vm&&VJ cf.E R o)||isIt o then sW cf R O sl o else sV cf R O sl o
theorem OB {κ:bE} {φ:bP} {w:World} {s:cu} {a:Act} (F:aA κ φ w s a) {x y z u:RV} {v1 v2 v3 v4:Value} {res:dz} {tys:Array TypeId} {ty:Nat}
 (hx:FK x y z u=some res) (r1:bJ κ φ s.O w.heap x v1) (r2:bJ κ φ s.O w.heap y v2) (r3:bJ κ φ s.O w.heap z v3) (r4:bJ κ φ s.O w.heap u v4) :
 Out P κ φ w s a res.val res.upd (Builtin.max_ tys ty #[v1,v2,v3,v4]):=by
 unfold FK at hx;split at hx
 ·injection hx with hx;subst hx;cases r1 with
  | d h1=>
  cases r2 with
  | d h2=>
  cases r3 with
  | d h3=>
  cases r4 with
  | d h4=>
  cases h1;cases h2;cases h3;cases h4;exact Out.pure F (by simp only [Builtin.max_,Builtin.max2,List.foldlM_cons,List.foldlM_nil];rfl) (.d (.int _ _))
 ·simp at hx
theorem Ro {κ:bE} {φ:bP} {w:World} {s:cu} {a:Act} (F:aA κ φ w s a) {t:Nat} {x:RV} {v:Value} {res:dz}
 (hx:KP (Env.of P) t x=some res) (r:bJ κ φ s.O w.heap x v):Out P κ φ w s a res.val res.upd (Instr.arrayAt t v):=by
 unfold KP at hx;split at hx
 ·rename_i n e i sz o len cap hu;cases hb:(Nat.ble 1 n&&Nat.ble n len) with
  | false=>rw [hb] at hx;simp at hx
  | true=>
    rw [hb] at hx;simp only [cond_true,Option.some.injEq] at hx;subst hx;simp only [Bool.and_eq_true] at hb;have h1:=Nat.le_of_ble_eq_true hb.1;have h2:=Nat.le_of_ble_eq_true hb.2;cases r with
    | sl hφ hb ho hs hle hcc hn=>
      rename_i b o' eY c ty fz;have e:o'=o:=by rcases ho with h | h<;>omega
      subst e;exact Out.pure F (by simp only [Instr.arrayAt,Sem.run_bind,aL hu,Result.andThen_ok,if_neg (Nat.not_lt.2 h2),Sem.run_pure]) (.ptr hφ)
 ·simp at hx
structure jE (P:Program) (cf:dX):Prop where
 E:cf.E=Env.of P
 K:aZ P cf.K
 call:∀f,cf.eH f=true→eH P f=true
theorem bA {κ:bE} {φ:bP} {w:World} {s:cu} {a:Act} (F:aA κ φ w s a) (x:Operand):bJ κ φ s.O w.heap (aN s.R x) (a.eval x):=by
 cases x with
 | tmp t=>exact F.regs t
 | const v=>
   simp only [aN,Act.eval];cases h:DV.qR v with
   | none=>exact .bot _
   | some x=>exact .d (iI h)
 | global g=>exact .bot _
 | func f=>exact .gI rfl rfl (by simp) (by simp)
theorem mg {κ:bE} {φ:bP} {w:World} {s:cu} {a:Act} (F:aA κ φ w s a) (l:Array Operand):∀(i:Nat) (x:RV) (v:Value),(l.toList.map (aN s.R))[i]? = some x→(l.map a.eval)[i]? = some v→bJ κ φ s.O w.heap x v:=by
 intro i x v hx hv;simp only [List.getElem?_map,Array.getElem?_toList] at hx;simp only [Array.getElem?_map] at hv;cases h:l[i]? with
 | none=>rw [h] at hx;simp at hx
 | some o=>rw [h] at hx hv;simp at hx hv;subst hx;subst hv;exact bA F o
theorem uR {κ:bE} {φ:bP} {w:World} {s:cu} {a:Act} (F:aA κ φ w s a) (l:Array (Nat×Operand)) :
 (l.map fun (i,x)=>(i,a.eval x)).size=(l.toList.map fun p=>(p.1,aN s.R p.2)).length∧
 ∀(k:Nat) (p:Nat×RV) (q:Nat×Value),(l.toList.map fun p=>(p.1,aN s.R p.2))[k]? = some p→(l.map fun (i,x)=>(i,a.eval x))[k]? = some q→p.1=q.1∧bJ κ φ s.O w.heap p.2 q.2:=by
 refine ⟨by simp,fun k p q hp hq=>?_⟩;simp only [List.getElem?_map,Array.getElem?_toList] at hp;simp only [Array.getElem?_map] at hq;cases h:l[k]? with
 | none=>rw [h] at hp;simp at hp
 | some o=>rw [h] at hp hq;simp at hp hq;subst hp;subst hq;exact ⟨rfl,bA F o.2⟩
theorem qm {κ:bE} {φ:bP} {w:World} {s:cu} {a:Act} (F:aA κ φ w s a) (l:Option Operand):ze κ φ s.O w.heap (l.map (aN s.R)) (l.map a.eval):=by
 cases l with
 | none=>exact .none
 | some o=>exact .some (bA F o)
theorem OC {κ:bE} {φ:bP} {w:World} {s:cu} {a:Act} (F:aA κ φ w s a) {x y z:RV} {v u t:Value} {res:dz}
 (hx:FJ x y z=some res) (r:bJ κ φ s.O w.heap x v) (r2:bJ κ φ s.O w.heap y u) (r3:bJ κ φ s.O w.heap z t) :
 Out P κ φ w s a res.val res.upd (do pure (if ←asBool v then u else t)):=by
 unfold FJ at hx;split at hx
 ·rename_i c;cases r with
  | d hr=>
  cases hr;have hrun:(do pure (if ←asBool (.bool c) then u else t):Sem Value).run P w = .ok (if c then u else t) w:=by simp [asBool]
  split at hx
  ·injection hx with hx;subst hx;cases r2 with
   | d h2=>
   cases r3 with
   | d h3=>
   cases h2;cases h3;refine Out.pure F hrun (.d ?_);cases c<;>exact .bool _
  ·injection hx with hx;subst hx;refine Out.pure F hrun ?_;cases c
   ·exact r3
   ·exact r2
 ·simp at hx
theorem DX {κ:bE} {φ:bP} {w:World} {s:cu} {a:Act} (F:aA κ φ w s a) {fn:Fn} {fs cs:List RV} {f c:Array Value} {res:dz}
 (hx:jQ s.O fn fs cs=some res) (hc:∀b∈res.conds,b=true) (hl1:f.size=fs.length) (hl2:c.size=cs.length)
 (h1:∀(i:Nat) (x:RV) (v:Value),fs[i]? = some x→f[i]? = some v→bJ κ φ s.O w.heap x v) (h2:∀(i:Nat) (x:RV) (v:Value),cs[i]? = some x→c[i]? = some v→bJ κ φ s.O w.heap x v) :
 Out P κ φ w s a res.val res.upd (Instr.makeFunc fn f c):=by
 unfold jQ at hx;cases hp:eZ s.O (fs++cs) with
 | none=>rw [hp] at hx;simp at hx
 | some p=>
   obtain ⟨l,u,cc⟩:=p;rw [hp] at hx;simp only [Option.some.injEq] at hx;subst hx
   obtain ⟨κ1,q1,q2,q3,_,q5,q6⟩:=rQ F (ku.refl _) hp hc (vs:=(f++c).toList) (by simp;omega) (fun i x v hx hv=>by
    by_cases hi:i < fs.length
    ·rw [List.getElem?_append_left hi] at hx;simp only [Array.toList_append] at hv;rw [List.getElem?_append_left (by simpa using by omega)] at hv;exact h1 i x v hx (by simpa using hv)
    ·rw [List.getElem?_append_right (by omega)] at hx;simp only [Array.toList_append] at hv;rw [List.getElem?_append_right (by simpa using by omega)] at hv;refine h2 _ x v hx ?_;rw [←hl1];simpa using hv)
   refine ⟨.func fn f c,w,κ1,φ,rfl,q1,.gI (by simp at q5;simp;omega) (by simp at q5;simp;omega) (fun i x v hx hv=>?_) (fun i x v hx hv=>?_),q3,q2.kp⟩
   ·rw [List.getElem?_take] at hx;split at hx
    ·refine q6 i x v hx ?_;rw [Array.toList_append,List.getElem?_append_left (by simpa using by omega)];simpa using hv
    ·simp at hx
   ·rw [List.getElem?_drop] at hx;refine q6 _ x v hx ?_;rw [Array.toList_append,List.getElem?_append_right (by simpa using by omega)]
    have:fs.length+i-f.toList.length=i:=by simp;omega
    rw [this];simpa using hv
theorem eX {o:Oper} {a:Act} {w w' : World} {next:Act→World→Prop} {Q:Exit→Act→World→Prop} {v:Value} (h:(execOp a.eval o).run P w = .ok (.value v) w') (hn:next (a.put o.dst v) w'):o.wp P a w next Q:=by
 unfold Oper.wp;rw [h];exact hn
theorem sZ {o:Oper} {a:Act} {w w' : World} {next:Act→World→Prop} {Q:Exit→Act→World→Prop} (h:(execOp a.eval o).run P w = .ok .skip w') (hn:next (a.put o.dst undef) w'):o.wp P a w next Q:=by
 unfold Oper.wp;rw [h];exact hn
theorem Rp {κ:bE} {φ:bP} {w:World} {s:cu} {a:Act} {cf:dX} (hcf:jE P cf) (F:aA κ φ w s a) {sl:Nat} {o:Oper} {res:dz} {un:Bool} {next:Act→World→Prop} {Q:Exit→Act→World→Prop}
 (hx:sV cf s.R s.O sl o=some (res,un)) (hc:∀b∈res.conds,b=true)
 (hn:∀v w' κ' φ',aA κ' φ' w' { s with O:=aX s.O res.upd } a→bJ κ' φ' (aX s.O res.upd) w'.heap res.val v→Fr κ w κ' w'→Kp φ s.O φ' (aX s.O res.upd)→next (a.put o.dst v) w') :
 o.wp P a w next Q:=by
 obtain ⟨hE,hK,hcall⟩:=hcf;unfold sV at hx;rw [hE] at hx
 have fin:∀(m:Sem Value),execOp a.eval o=(do pure (Next.value (←m)))→Out P κ φ w s a res.val res.upd m→o.wp P a w next Q:=by
  rintro m he ⟨v,w',κ',φ',h1,h2,h3,h4,h5⟩
  exact eX (by rw [he];simp [h1]) (hn v w' κ' φ' h2 h3 h4 h5)
 have val:∀(r:Option dz),(match r with | some r=>some (r,false) | none=>none)=some (res,un)→r=some res:=by
  intro r h;cases r with
  | none=>simp at h
  | some r=>simp at h;rw [h.1]
 cases ho:o.op<;>rw [ho] at hx<;>(try simp only at hx)<;>try (simp at hx;done)
 case move x=>
  injection hx with hx;injection hx with hx hx2;subst hx;exact eX (v:=a.eval x) (by simp [execOp,ho]) (hn _ w κ φ F (bA F x) (Fr.refl _ _) (Kp.refl _ _))
 case assign x=>
  injection hx with hx;injection hx with hx hx2;subst hx;exact eX (v:=a.eval x) (by simp [execOp,ho]) (hn _ w κ φ F (bA F x) (Fr.refl _ _) (Kp.refl _ _))
 case pick c x y=>
  have:=OC (P:=P) F (val _ hx) (bA F c) (bA F x) (bA F y)
  exact fin _ (by simp [execOp,ho]) this
 case alloc t=>
  cases hz:(Env.of P).zero t with
  | none=>rw [hz] at hx;simp at hx
  | some z=>
    rw [hz] at hx;simp only at hx;obtain ⟨i,v,h1,h2,h3⟩:=wV hz
    have:=Dz F (val _ hx) (v:=v) (.d (iI h3))
    obtain ⟨v',w',κ',φ',g1,g2,g3,g4,g5⟩:=this;have Zb:(zeroValue t).run P w = .ok v w:=by simp [zeroValue,typeInfo,h1,h2]
    refine eX (v:=v') (w':=w') ?_ (hn v' w' κ' φ' g2 g3 g4 g5);simp only [Sem.run_bind,Sem.run_pure] at g1;simp only [execOp,ho,Instr.alloc,Sem.run_bind,Zb,Result.andThen_ok,Sem.run_pure,g1]
 case box t x=>
  exact fin _ (by simp [execOp,ho,Instr.box]) (Dz F (val _ hx) (bA F x))
 case build t parts=>
  obtain ⟨p1,p2⟩:=uR F parts;exact fin _ (by simp only [execOp,ho]) (Kg F (val _ hx) p1 p2)
 case buildSlice t n parts=>
  obtain ⟨p1,p2⟩:=uR F parts;exact fin _ (by simp only [execOp,ho]) (y9 F (val _ hx) hc p1 p2)
 case load t x=>exact fin _ (by simp only [execOp,ho]) (Oh F (val _ hx) hc (bA F x))
 case store t x y=>
  cases hs:lV (Env.of P) s.O t (aN s.R x) (aN s.R y) with
  | none=>rw [hs] at hx;simp at hx
  | some r=>
    rw [hs] at hx;simp only [Option.some.injEq,Prod.mk.injEq] at hx;obtain ⟨rfl,rfl⟩:=hx;obtain ⟨w',κ',φ',h1,h2,h3,h4⟩:=Ke F hs hc (bA F x) (bA F y);exact sZ (by simp only [execOp,ho];simp [h1]) (hn _ w' κ' φ' h2 (.bot _) h3 h4)
 case nilCheck x=>
  have hv:=val _ hx;have r:=bA F x;unfold QB at hv;cases hr:aN s.R x<;>rw [hr] at hv r<;>(try simp only at hv)<;>try (simp at hv;done)
  case ptr i off=>
   injection hv with hv;subst hv;cases hv2:a.eval x<;>rw [hv2] at r<;>try (cases r;done)
   rename_i ad;cases r;exact eX (by simp only [execOp,ho,hv2];rfl) (hn _ w κ φ F (.ptr (by assumption)) (Fr.refl _ _) (Kp.refl _ _))
  case gU i sz idx off=>
   injection hv with hv;subst hv;cases hv2:a.eval x<;>rw [hv2] at r<;>try (cases r;done)
   cases r;exact eX (by simp only [execOp,ho,hv2];rfl) (hn _ w κ φ F (.gU (by assumption)) (Fr.refl _ _) (Kp.refl _ _))
  case bB y off=>
   injection hv with hv;subst hv;cases hv2:a.eval x<;>rw [hv2] at r<;>try (cases r;done)
   have r':=r;cases r;exact eX (by simp only [execOp,ho,hv2];rfl) (hn _ w κ φ F r' (Fr.refl _ _) (Kp.refl _ _))
  case gI fn fs cs=>
   cases fn<;>(try simp only at hv)<;>try (simp at hv;done)
   injection hv with hv;subst hv;cases hv2:a.eval x<;>rw [hv2] at r<;>try (cases r;done)
   have r':=r;cases r;exact eX (by simp only [execOp,ho,hv2];rfl) (hn _ w κ φ F r' (Fr.refl _ _) (Kp.refl _ _))
 case binOp op t x y yt=>exact fin _ (by simp only [execOp,ho]) (Oq (xo:=x) (yo:=y) F (val _ hx) hc (bA F x) (bA F y))
 case unOp op t x=>exact fin _ (by simp only [execOp,ho]) (V9 F (val _ hx) (bA F x))
 case convert src dst x=>exact fin _ (by simp only [execOp,ho]) (Ot F (val _ hx) hc (bA F x))
 case slice t x lo hi mx=>exact fin _ (by simp only [execOp,ho]) (Km F (val _ hx) hc (bA F x) (qm F lo) (qm F hi) (qm F mx))
 case fieldAddr t x f=>exact fin _ (by simp only [execOp,ho]) (Bp F (val _ hx) (bA F x))
 case field t x f=>exact fin _ (by simp only [execOp,ho]) (Kh F (val _ hx) (bA F x))
 case indexAddr t x i=>exact fin _ (by simp only [execOp,ho]) (Bq F (val _ hx) hc (bA F x) (bA F i))
 case index t x i=>exact fin _ (by simp only [execOp,ho]) (Ki F (val _ hx) hc (bA F x) (bA F i))
 case extract x i=>exact fin _ (by simp only [execOp,ho]) (Fg F (val _ hx) (bA F x))
 case makeFunc fn first caps=>
  exact fin _ (by simp only [execOp,ho]) (DX F (val _ hx) hc (by simp) (by simp) (mg F first) (mg F caps))
 case makeSlice t l c=>exact fin _ (by simp only [execOp,ho]) (Br F (val _ hx) hc (bA F l) (bA F c))
 case makeMap t h=>
  have hv:=val _ hx;cases h with
  | none=>exact fin _ (by simp only [execOp,ho];rfl) (Fv (t:=t) F hv)
  | some y=>unfold nk at hv;simp only [Option.map_some] at hv;split at hv<;>simp_all
 case lookup t x i ok=>exact fin _ (by simp only [execOp,ho]) (I7 F (val _ hx) hc (bA F x) (bA F i))
 case mapUpdate t m k y=>
  cases hs:gV (Env.of P) s.O t (aN s.R m) (aN s.R k) (aN s.R y) with
  | none=>rw [hs] at hx;simp at hx
  | some r=>
    rw [hs] at hx;simp only [Option.some.injEq,Prod.mk.injEq] at hx;obtain ⟨rfl,rfl⟩:=hx;obtain ⟨w',κ',φ',h1,h2,h3,h4⟩:=Bv F hs hc (bA F m) (bA F k) (bA F y);exact sZ (by simp only [execOp,ho];simp [h1]) (hn _ w' κ' φ' h2 (.bot _) h3 h4)
 case call c=>
  cases zl:c.callee<;>rw [zl] at hx<;>(try simp only at hx)<;>try (simp at hx;done)
  case builtin b=>
   have hv:=val _ hx;have hargs:=mg F c.args
   have vX:execOp a.eval o=builtin b c.argTypes o.type (c.args.map fun | .const _=>true | _=>false) (c.args.map a.eval):=by
    simp only [execOp,ho,resolve,zl];rfl
   have uS:∀(m:Sem Value),builtin b c.argTypes o.type (c.args.map fun | .const _=>true | _=>false) (c.args.map a.eval)=(do pure (Next.value (←m)))→Out P κ φ w s a res.val res.upd m→o.wp P a w next Q:=
    fun m h1 h2=>fin m (by rw [vX,h1]) h2
   unfold uQ at hv;rw [hE] at hv;have two:∀(n:Nat),(c.args.toList.map (aN s.R)).length=n→c.args.size=n:=by intro n h;simpa using h
   split at hv
   ·rename_i t x ht dG;have hsz:c.args.size=1:=two 1 (by rw [dG];rfl)
    have ha:c.args.map a.eval = #[a.eval c.args[0]]:=by
     apply Array.ext
     ·simp [hsz]
     ·intro i h1 h2;simp at h2;subst h2;simp
    have hty:c.argTypes = #[t]:=by have:=congrArg List.toArray ht;simpa using this
    have r0:=hargs 0 x (a.eval c.args[0]) (by rw [dG];rfl) (by rw [ha];rfl);refine uS (Builtin.len_ #[t] o.type #[a.eval c.args[0]]) ?_ (Rl F hv r0);rw [ha,hty];rfl
   ·rename_i t t2 x y ht dG;have hsz:c.args.size=2:=two 2 (by rw [dG];rfl)
    have ha:c.args.map a.eval = #[a.eval c.args[0],a.eval c.args[1]]:=by
     apply Array.ext
     ·simp [hsz]
     ·intro i h1 h2;simp at h2
      have:i=0∨i=1:=by omega
      rcases this with rfl | rfl<;>simp
    have hty:c.argTypes = #[t,t2]:=by have:=congrArg List.toArray ht;simpa using this
    have r0:=hargs 0 x (a.eval c.args[0]) (by rw [dG];rfl) (by rw [ha];rfl);have r1:=hargs 1 y (a.eval c.args[1]) (by rw [dG];rfl) (by rw [ha];rfl);cases hni:kg ((Env.of P).und t2) with
    | false=>rw [hni] at hv;simp at hv
    | true=>
      rw [hni] at hv;simp only [cond_true] at hv;cases hu2:(Env.of P).und t2 with
      | none=>rw [hu2] at hni;simp [kg] at hni
      | some d2=>
        rw [hu2] at hni;have hout:=IZ F hv hc hu2 (fun k e=>by subst e;simp [kg] at hni) r0 r1;refine uS (Builtin.append_ #[t,t2] o.type #[a.eval c.args[0],a.eval c.args[1]]) (by rw [ha,hty];rfl) ?_;exact hout
   ·rename_i x y dG;have hsz:c.args.size=2:=two 2 (by rw [dG];rfl)
    have ha:c.args.map a.eval = #[a.eval c.args[0],a.eval c.args[1]]:=by
     apply Array.ext
     ·simp [hsz]
     ·intro i h1 h2;simp at h2
      have:i=0∨i=1:=by omega
      rcases this with rfl | rfl<;>simp
    have r0:=hargs 0 x (a.eval c.args[0]) (by rw [dG];rfl) (by rw [ha];rfl);have r1:=hargs 1 y (a.eval c.args[1]) (by rw [dG];rfl) (by rw [ha];rfl);refine uS (Builtin.min_ c.argTypes o.type #[a.eval c.args[0],a.eval c.args[1]]) (by rw [ha];rfl) ?_
    have:=zW (P:=P) (tys:=c.argTypes) (ty:=o.type) F hv r0 r1
    simpa using this
   ·rename_i x y dG;have hsz:c.args.size=2:=two 2 (by rw [dG];rfl)
    have ha:c.args.map a.eval = #[a.eval c.args[0],a.eval c.args[1]]:=by
     apply Array.ext
     ·simp [hsz]
     ·intro i h1 h2;simp at h2
      have:i=0∨i=1:=by omega
      rcases this with rfl | rfl<;>simp
    have r0:=hargs 0 x (a.eval c.args[0]) (by rw [dG];rfl) (by rw [ha];rfl);have r1:=hargs 1 y (a.eval c.args[1]) (by rw [dG];rfl) (by rw [ha];rfl);refine uS (Builtin.max_ c.argTypes o.type #[a.eval c.args[0],a.eval c.args[1]]) (by rw [ha];rfl) ?_
    have:=zW (P:=P) (tys:=c.argTypes) (ty:=o.type) F hv r0 r1
    simpa using this
   ·rename_i t t2 x y ht dG;have hsz:c.args.size=2:=two 2 (by rw [dG];rfl)
    have ha:c.args.map a.eval = #[a.eval c.args[0],a.eval c.args[1]]:=by
     apply Array.ext
     ·simp [hsz]
     ·intro i h1 h2;simp at h2
      have:i=0∨i=1:=by omega
      rcases this with rfl | rfl<;>simp
    have hty:c.argTypes = #[t,t2]:=by have:=congrArg List.toArray ht;simpa using this
    have r0:=hargs 0 x (a.eval c.args[0]) (by rw [dG];rfl) (by rw [ha];rfl);have r1:=hargs 1 y (a.eval c.args[1]) (by rw [dG];rfl) (by rw [ha];rfl);exact uS (Builtin.delete_ #[t,t2] o.type #[a.eval c.args[0],a.eval c.args[1]]) (by rw [ha,hty];rfl) (I8 F hv hc r0 r1)
   ·rename_i t x ht dG;have hsz:c.args.size=1:=two 1 (by rw [dG];rfl)
    have ha:c.args.map a.eval = #[a.eval c.args[0]]:=by
     apply Array.ext
     ·simp [hsz]
     ·intro i h1 h2;simp at h2;subst h2;simp
    have hty:c.argTypes = #[t]:=by have:=congrArg List.toArray ht;simpa using this
    have r0:=hargs 0 x (a.eval c.args[0]) (by rw [dG];rfl) (by rw [ha];rfl);exact uS (Builtin.clear_ #[t] o.type #[a.eval c.args[0]]) (by rw [ha,hty];rfl) (Ku F hv hc r0)
   ·simp at hv
  case value f=>
   have rf:=bA F f;cases hrf:aN s.R f<;>rw [hrf] at hx rf<;>(try simp only at hx)<;>try (simp at hx;done)
   rename_i fn first caps;cases fn<;>(try simp only at hx)<;>try (simp at hx;done)
   rename_i g;cases hok:cf.eH g with
   | false=>rw [hok] at hx;simp at hx
   | true=>
     rw [hok] at hx;simp only [cond_true] at hx;have hv:=val _ hx;generalize hev:a.eval f=fv at rf;cases rf with
     | gI h1 h2 h3 h4=>
       rename_i fa ca;have hargs:=mg F c.args
       have vX:(execOp a.eval o).run P w = .ok (.enter g (fa++c.args.map a.eval++ca)) w:=by
        simp only [execOp,ho,resolve,zl,hev,Deferred.ofValue,Sem.run_bind,Sem.run_pure,Result.andThen_ok,invoke];exact sU (hcall g hok) _ w
       have FL:=KO F hK hv hc (vs:=fa++c.args.map a.eval++ca) (by simp;omega) (fun i x v hx hv=>by
        by_cases k1:i < first.length
        ·rw [List.append_assoc,List.getElem?_append_left k1] at hx;rw [Array.append_assoc,Array.getElem?_append_left (by omega)] at hv;exact h3 i x v hx hv
        ·rw [List.append_assoc,List.getElem?_append_right (by omega)] at hx;rw [Array.append_assoc,Array.getElem?_append_right (by omega)] at hv;by_cases k2:i-first.length < c.args.size
         ·rw [List.getElem?_append_left (by simpa using k2)] at hx;rw [Array.getElem?_append_left (by simp;omega)] at hv;exact hargs _ x v hx (by rw [←h1];exact hv)
         ·rw [List.getElem?_append_right (by simp;omega)] at hx;rw [Array.getElem?_append_right (by simp;omega)] at hv;refine h4 _ x v hx ?_;rw [←hv];congr 1;simp;omega)
       unfold Oper.wp;rw [vX];refine FL.mono ?_
       rintro e w' ⟨v,κ',φ',rfl,g1,g2,g3,g4⟩
       exact hn v w' κ' φ' g1 g2 g3 g4
theorem OD (n t:Nat) {ms:Array (String×TypeId)} (hu:P.underlying t=some (.interface ms)) (w:World):(Op.equalIn (n+1) t .nilIface .nilIface).run P w = .ok true w:=by
 simp [Op.equalIn,run_underlying hu]
theorem OE {κ:bE} {φ:bP} {w:World} {s:cu} {a:Act} (F:aA κ φ w s a) {op:BinOp} {t:Nat} {x y:RV} {xo yo:Operand} {v u:Value} {res:dz} (hk:isConst yo=true)
 (hx:BI (Env.of P) op t x y=some res) (r:bJ κ φ s.O w.heap x v) (r2:bJ κ φ s.O w.heap y u) :
 Out P κ φ w s a res.val res.upd (do eqGuard op t xo yo v u;binOp op t v u):=by
 unfold BI at hx;split at hx
 ·rename_i ms hu;split at hx
  ·rename_i z he;injection hx with hx;subst hx;cases r with
   | d hr=>
   cases hr;cases r2 with
   | d hr2=>
   cases hr2
   have g:(eqGuard op t xo yo .nilIface .nilIface).run P w = .ok () w:=by
    unfold eqGuard;cases yo<;>simp [isConst] at hk
    cases op<;>simp
   have hq:(Op.equal t .nilIface .nilIface).run P w = .ok true w:=OD (P:=P) 9999 t hu w;rcases jX he with ⟨rfl,rfl⟩ | ⟨rfl,rfl⟩
   ·exact Out.pure F (v:=.bool true) (by simp only [Sem.run_bind,g,Result.andThen_ok,binOp,hq,Sem.run_pure]) (.d (.bool _))
   ·exact Out.pure F (v:=.bool (!true)) (by simp only [Sem.run_bind,g,Result.andThen_ok,binOp,hq,Sem.run_pure]) (.d (.bool _))
  ·simp at hx
 ·simp at hx
theorem Rq {κ:bE} {φ:bP} {w:World} {s:cu} {a:Act} {cf:dX} (hE:cf.E=Env.of P) (F:aA κ φ w s a) {sl:Nat} {o:Oper} {res:dz} {un:Bool} {next:Act→World→Prop} {Q:Exit→Act→World→Prop}
 (hx:sW cf s.R s.O sl o=some (res,un)) (hc:∀b∈res.conds,b=true)
 (hn:∀v w' κ' φ',aA κ' φ' w' { s with O:=aX s.O res.upd } a→bJ κ' φ' (aX s.O res.upd) w'.heap res.val v→Fr κ w κ' w'→Kp φ s.O φ' (aX s.O res.upd)→next (a.put o.dst v) w') :
 o.wp P a w next Q:=by
 unfold sW at hx;rw [hE] at hx
 have fin:∀(m:Sem Value),execOp a.eval o=(do pure (Next.value (←m)))→Out P κ φ w s a res.val res.upd m→o.wp P a w next Q:=by
  rintro m he ⟨v,w',κ',φ',h1,h2,h3,h4,h5⟩
  exact eX (by rw [he];simp [h1]) (hn v w' κ' φ' h2 h3 h4 h5)
 have val:∀(r:Option dz),nH r=some (res,un)→r=some res:=by
  intro r h;cases r with
  | none=>simp [nH] at h
  | some r=>simp [nH] at h;rw [h.1]
 cases ho:o.op<;>rw [ho] at hx<;>(try simp only at hx)<;>try (simp at hx;done)
 case alloc t=>
  cases hz:(Env.of P).zero t with
  | none=>rw [hz] at hx;simp at hx
  | some z=>
    rw [hz] at hx;simp only at hx;obtain ⟨i,v,h1,h2,h3⟩:=wV hz
    have:=zY F (val _ hx) (v:=v) (.d (iI h3))
    obtain ⟨v',w',κ',φ',g1,g2,g3,g4,g5⟩:=this;have Zb:(zeroValue t).run P w = .ok v w:=by simp [zeroValue,typeInfo,h1,h2]
    refine eX (v:=v') (w':=w') ?_ (hn v' w' κ' φ' g2 g3 g4 g5);simp only [Sem.run_bind,Sem.run_pure] at g1;simp only [execOp,ho,Instr.alloc,Sem.run_bind,Zb,Result.andThen_ok,Sem.run_pure,g1]
 case box t x=>exact fin _ (by simp [execOp,ho,Instr.box]) (zY F (val _ hx) (bA F x))
 case buildSlice t n parts=>
  obtain ⟨p1,p2⟩:=uR F parts;exact fin _ (by simp only [execOp,ho]) (xR F (val _ hx) p1 p2)
 case load t x=>exact fin _ (by simp only [execOp,ho]) (Kv F (val _ hx) (bA F x))
 case store t x y=>
  cases hs:kF (Env.of P) s.O t (aN s.R x) (aN s.R y) with
  | none=>rw [hs] at hx;simp at hx
  | some r=>
    rw [hs] at hx;simp only [Option.some.injEq,Prod.mk.injEq] at hx;obtain ⟨rfl,rfl⟩:=hx;obtain ⟨w',κ',φ',h1,h2,h3,h4⟩:=Ja F hs (bA F x) (bA F y);exact sZ (by simp only [execOp,ho];simp [h1]) (hn _ w' κ' φ' h2 (.bot _) h3 h4)
 case binOp op t x y yt=>
  cases hb:xS (Env.of P) op t (aN s.R x) (aN s.R y) with
  | some r=>
    rw [hb] at hx;simp only [Option.some.injEq,Prod.mk.injEq] at hx;obtain ⟨rfl,rfl⟩:=hx;exact fin _ (by simp only [execOp,ho]) (Oy (xo:=x) (yo:=y) F hb (bA F x) (bA F y))
  | none=>
    rw [hb] at hx;simp only at hx;cases hk:isConst y with
    | false=>rw [hk] at hx;simp at hx
    | true=>
      rw [hk] at hx;simp only [cond_true] at hx;exact fin _ (by simp only [execOp,ho]) (OE (xo:=x) (yo:=y) F hk (val _ hx) (bA F x) (bA F y))
 case range t x=>exact fin _ (by simp only [execOp,ho]) (KM F (val _ hx) (bA F x))
 case sliceToArrayPointer t x=>exact fin _ (by simp only [execOp,ho]) (Ro F (val _ hx) (bA F x))
 case next x str=>exact fin (Instr.next (a.eval x) str o.type) (by simp only [execOp,ho]) (OA F (val _ hx) (bA F x))
 case convert src dst x=>exact fin _ (by simp only [execOp,ho]) (KC F (val _ hx) (bA F x))
 case slice t x lo hi mx=>exact fin _ (by simp only [execOp,ho]) (Jb F (val _ hx) hc (bA F x) (qm F lo) (qm F hi) (qm F mx))
 case indexAddr t x i=>exact fin _ (by simp only [execOp,ho]) (zh F (val _ hx) hc (bA F x) (bA F i))
 case makeFunc fn first caps=>
  simp only [Option.some.injEq,Prod.mk.injEq] at hx;obtain ⟨rfl,rfl⟩:=hx;exact fin _ (by simp only [execOp,ho]) (BF F (by simp) (by simp) (mg F first) (mg F caps))
 case makeSlice t l c=>exact fin _ (by simp only [execOp,ho]) (zi F (val _ hx) hc (bA F l) (bA F c))
 case call c=>
  cases zl:c.callee<;>rw [zl] at hx<;>(try simp only at hx)<;>try (simp at hx;done)
  rename_i b;have hv:=val _ hx;have hargs:=mg F c.args
  have vX:execOp a.eval o=builtin b c.argTypes o.type (c.args.map fun | .const _=>true | _=>false) (c.args.map a.eval):=by
   simp only [execOp,ho,resolve,zl];rfl
  have uS:∀(m:Sem Value),builtin b c.argTypes o.type (c.args.map fun | .const _=>true | _=>false) (c.args.map a.eval)=(do pure (Next.value (←m)))→Out P κ φ w s a res.val res.upd m→o.wp P a w next Q:=
   fun m h1 h2=>fin m (by rw [vX,h1]) h2
  unfold rR at hv;have two:∀(n:Nat),(c.args.toList.map (aN s.R)).length=n→c.args.size=n:=by intro n h;simpa using h
  have Rt:∀x,c.args.toList.map (aN s.R)=[x]→∃u,c.args.map a.eval = #[u]∧bJ κ φ s.O w.heap x u:=by
   intro x dG;have hsz:c.args.size=1:=two 1 (by rw [dG];rfl)
   have ha:c.args.map a.eval = #[a.eval c.args[0]]:=by
    apply Array.ext
    ·simp [hsz]
    ·intro i h1 h2;simp at h2;subst h2;simp
   exact ⟨_,ha,hargs 0 x (a.eval c.args[0]) (by rw [dG];rfl) (by rw [ha];rfl)⟩
  have Wu:∀x y,c.args.toList.map (aN s.R)=[x,y]→∃u v,c.args.map a.eval = #[u,v]∧bJ κ φ s.O w.heap x u∧bJ κ φ s.O w.heap y v:=by
   intro x y dG;have hsz:c.args.size=2:=two 2 (by rw [dG];rfl)
   have ha:c.args.map a.eval = #[a.eval c.args[0],a.eval c.args[1]]:=by
    apply Array.ext
    ·simp [hsz]
    ·intro i h1 h2;simp at h2
     have:i=0∨i=1:=by omega
     rcases this with rfl | rfl<;>simp
   exact ⟨_,_,ha,hargs 0 x (a.eval c.args[0]) (by rw [dG];rfl) (by rw [ha];rfl),hargs 1 y (a.eval c.args[1]) (by rw [dG];rfl) (by rw [ha];rfl)⟩
  split at hv
  ·rename_i t x ht dG;obtain ⟨u,ha,r0⟩:=Rt x dG;have hty:c.argTypes = #[t]:=by have:=congrArg List.toArray ht;simpa using this
   exact uS (Builtin.len_ #[t] o.type #[u]) (by rw [ha,hty];rfl) (Ow F hv r0)
  ·rename_i t x ht dG;obtain ⟨u,ha,r0⟩:=Rt x dG;have hty:c.argTypes = #[t]:=by have:=congrArg List.toArray ht;simpa using this
   exact uS (Builtin.cap_ #[t] o.type #[u]) (by rw [ha,hty];rfl) (Ox F hv r0)
  ·rename_i t t2 x y ht dG;obtain ⟨u,v,ha,r0,r1⟩:=Wu x y dG;have hty:c.argTypes = #[t,t2]:=by have:=congrArg List.toArray ht;simpa using this
   cases hni:kg ((Env.of P).und t2) with
   | false=>rw [hni] at hv;simp at hv
   | true=>
     rw [hni] at hv;simp only [cond_true] at hv;cases hu2:(Env.of P).und t2 with
     | none=>rw [hu2] at hni;simp [kg] at hni
     | some d2=>
       rw [hu2] at hni;exact uS (Builtin.append_ #[t,t2] o.type #[u,v]) (by rw [ha,hty];rfl) (FB F hv hc hu2 (fun k e=>by subst e;simp [kg] at hni) r0 r1)
  ·rename_i t t2 x y ht dG;obtain ⟨u,v,ha,r0,r1⟩:=Wu x y dG;have hty:c.argTypes = #[t,t2]:=by have:=congrArg List.toArray ht;simpa using this
   exact uS (Builtin.copy_ #[t,t2] o.type #[u,v]) (by rw [ha,hty];rfl) (Kz F hv r0 r1)
  ·rename_i t x ht dG;obtain ⟨u,ha,r0⟩:=Rt x dG;have hty:c.argTypes = #[t]:=by have:=congrArg List.toArray ht;simpa using this
   exact uS (Builtin.clear_ #[t] o.type #[u]) (by rw [ha,hty];rfl) (Jc F hv r0)
  ·rename_i x y z u dG;have hsz:c.args.size=4:=two 4 (by rw [dG];rfl)
   have ha:c.args.map a.eval = #[a.eval c.args[0],a.eval c.args[1],a.eval c.args[2],a.eval c.args[3]]:=by
    apply Array.ext
    ·simp [hsz]
    ·intro i h1 h2;simp at h2
     have:i=0∨i=1∨i=2∨i=3:=by omega
     rcases this with rfl | rfl | rfl | rfl<;>simp
   have r0:=hargs 0 x (a.eval c.args[0]) (by rw [dG];rfl) (by rw [ha];rfl);have r1:=hargs 1 y (a.eval c.args[1]) (by rw [dG];rfl) (by rw [ha];rfl);have r2:=hargs 2 z (a.eval c.args[2]) (by rw [dG];rfl) (by rw [ha];rfl);have r3:=hargs 3 u (a.eval c.args[3]) (by rw [dG];rfl) (by rw [ha];rfl);exact uS (Builtin.max_ c.argTypes o.type #[a.eval c.args[0],a.eval c.args[1],a.eval c.args[2],a.eval c.args[3]]) (by rw [ha];rfl) (OB F hv r0 r1 r2 r3)
  ·simp at hv
theorem DY {κ:bE} {φ:bP} {w:World} {s:cu} {a:Act} {cf:dX} (hcf:jE P cf) (F:aA κ φ w s a) {sl:Nat} {o:Oper} {res:dz} {un:Bool} {next:Act→World→Prop} {Q:Exit→Act→World→Prop}
 (hx:mK cf s.R s.O sl o=some (res,un)) (hc:∀b∈res.conds,b=true)
 (hn:∀v w' κ' φ',aA κ' φ' w' { s with O:=aX s.O res.upd } a→bJ κ' φ' (aX s.O res.upd) w'.heap res.val v→Fr κ w κ' w'→Kp φ s.O φ' (aX s.O res.upd)→next (a.put o.dst v) w') :
 o.wp P a w next Q:=by
 unfold mK at hx;cases hv:((cf.vm&&VJ cf.E s.R o)||isIt o) with
 | false=>rw [hv] at hx;exact Rp hcf F hx hc hn
 | true=>rw [hv] at hx;exact Rq hcf.E F hx hc hn
structure jN where
 n:Nat
 m:Nat
 regs:T RV
 objs:T av
def bg (t:T RV) (i:Nat):RV:=
 match t.get i with
 | some v=>v
 | none=>.bot
def jN.den (st:jN):cu:={ n:=st.n,R:=bg st.regs,O:=st.objs.get }
def ji (o:T av):List (Nat×av)→T av
 | []=>o
 | (i,p)::r=>ji (o.set i (some p)) r
def oV (u:List (Nat×av)):Bool:=u.all fun p=>Nat.ble p.1 65000
theorem rT:∀(u:List (Nat×av)) (o:T av),oV u=true→(ji o u).get=aX o.get u
 | [],_,_=>rfl
 | (i,p)::r,o,h=>by
   simp only [oV,List.all_cons,Bool.and_eq_true] at h;have hi:=Nat.le_of_ble_eq_true h.1;simp only [ji];rw [rT r _ h.2]
   have:(o.set i (some p)).get=bF o.get i (some p):=by
    funext j;by_cases e:j=i
    ·subst e;rw [T.get_set_same _ (by omega),bN]
    ·rw [T.dA _ e,dP _ _ e]
   rw [this];rfl
theorem jy {t:T RV} {d:Nat} (hd:d < 65535) (v:RV):bg (t.set d (some v))=jh (bg t) d v:=by
 funext i;unfold bg jh;by_cases e:i=d
 ·subst e;rw [T.get_set_same _ hd];simp
 ·rw [T.dA _ e];simp [e]
abbrev Ov:=List (Nat×RV)
def uT (d:Nat):Ov→Option RV
 | []=>none
 | (t,v)::r=>bif Nat.beq t d then some v else uT d r
def jF (x y:RV):Prop:=∀κ φ O h v,bJ κ φ O h x v→bJ κ φ O h y v
theorem jF.of_eq {x y:RV} (h:x=y):jF x y:=fun _ _ _ _ _ r=>h▸r
structure Acc where
 st:jN
 cs:List Bool
 es:List (RV×RV)
def KQ (o:T av) (s:Nat):Bool:=(o.get s).isNone&&(o.get (s+1)).isNone&&(o.get (s+2)).isNone&&(o.get (s+3)).isNone&&(o.get (s+4)).isNone&&(o.get (s+5)).isNone&&(o.get (s+6)).isNone&&(o.get (s+7)).isNone
def DZ (o:T av):Nat→Nat→Nat
 | 0,s=>s
 | f+1,s=>bif KQ o s then s else DZ o f (s+8)
def KR (st:jN) (o:Oper):Nat:=
 bif KQ st.objs (match o.dst with | some d=>64+8*d | none=>64+8*st.n) then (match o.dst with | some d=>64+8*d | none=>64+8*st.n)
 else DZ st.objs 4000 (64+8*(st.n+1))
def guardOf (R:Nat→RV) (ops:Array Oper) (o:Oper):Option Bool:=
 match o.guard with
 | none=>some true
 | some (j,want)=>match ops[j]? with
   | some g=>match g.dst with
     | some t=>match R t with
       | .d (.bool b)=>some (b==want)
       | .und=>some false
       | _=>none
     | none=>none
   | none=>none
def mM (st:jN) (dst:Option Nat) (v:RV):Option jN:=
 match dst with
 | none=>some st
 | some d=>bif Nat.ble (d+1) st.n&&Nat.ble d 8000 then some { st with regs:=st.regs.set d (some v) } else none
def xX (cf:dX) (ops:Array Oper) (ov:Ov) (o:Oper) (ac:Acc):Option Acc:=
 match guardOf (bg ac.st.regs) ops o with
 | none=>none
 | some false=>match mM ac.st o.dst .und with
   | some st=>some { ac with st:=st }
   | none=>none
 | some true=>match mK cf (bg ac.st.regs) ac.st.objs.get (KR ac.st o) o with
   | none=>none
   | some (res,_)=>bif oV res.upd then
      match o.dst with
      | none=>some { st:={ ac.st with objs:=ji ac.st.objs res.upd },cs:=ac.cs++res.conds,es:=ac.es }
      | some d=>match uT d ov with
        | none=>match mM { ac.st with objs:=ji ac.st.objs res.upd } (some d) res.val with
          | some st=>some { st:=st,cs:=ac.cs++res.conds,es:=ac.es }
          | none=>none
        | some v=>match mM { ac.st with objs:=ji ac.st.objs res.upd } (some d) v with
          | some st=>some { st:=st,cs:=ac.cs++res.conds,es:=ac.es++[(res.val,v)] }
          | none=>none
     else none
def oW (cf:dX) (ops:Array Oper) (ov:Ov):List Oper→Acc→Option Acc
 | [],ac=>some ac
 | o::r,ac=>match xX cf ops ov o ac with
   | some jA=>oW cf ops ov r jA
   | none=>none
theorem jR {st st' : jN} {dst:Option Nat} {v:RV} (h:mM st dst v=some st'):st'.n=st.n∧st'.m=st.m∧st'.objs=st.objs∧
 ((dst=none∧st'=st)∨∃d,dst=some d∧d < st.n∧st'.den = { st.den with R:=jh st.den.R d v }):=by
 unfold mM at h;cases dst with
 | none=>injection h with h;subst h;exact ⟨rfl,rfl,rfl,.inl ⟨rfl,rfl⟩⟩
 | some d=>
   simp only at h;cases hg:(Nat.ble (d+1) st.n&&Nat.ble d 8000) with
   | false=>rw [hg] at h;simp at h
   | true=>
     rw [hg] at h;simp only [cond_true,Option.some.injEq] at h;subst h;simp only [Bool.and_eq_true] at hg;have h1:=Nat.le_of_ble_eq_true hg.1;have h2:=Nat.le_of_ble_eq_true hg.2;refine ⟨rfl,rfl,rfl,.inr ⟨d,rfl,by omega,?_⟩⟩;simp only [jN.den,jy (show d < 65535 by omega)]
theorem aA.mM {κ:bE} {φ:bP} {w:World} {st st' : jN} {a:Act} {dst:Option Nat} {rv:RV} {v:Value} (F:aA κ φ w st.den a) (h:Am.mM st dst rv=some st')
 (hr:bJ κ φ st.den.O w.heap rv v):aA κ φ w st'.den (a.put dst v):=by
 obtain ⟨_,_,_,h4⟩:=jR h;rcases h4 with ⟨rfl,rfl⟩ | ⟨d,rfl,hd,e⟩
 ·exact F.wU v
 ·rw [e];exact F.put hd hr
theorem D5 {cf:dX} {ops:Array Oper} {ov:Ov} {o:Oper} {ac jA : Acc} (h:xX cf ops ov o ac=some jA):(∀c∈ac.cs,c∈jA.cs)∧(∀e∈ac.es,e∈jA.es)∧jA.st.m=ac.st.m∧jA.st.n=ac.st.n:=by
 unfold xX at h;split at h
 ·simp at h
 ·split at h
  ·rename_i st hp;injection h with h;subst h;obtain ⟨h1,h2,_⟩:=jR hp;exact ⟨fun c hc=>hc,fun e he=>he,h2,h1⟩
  ·simp at h
 ·split at h
  ·simp at h
  ·rename_i res un hex;cases hs:oV res.upd with
   | false=>rw [hs] at h;simp at h
   | true=>
     rw [hs] at h;simp only [cond_true] at h;split at h
     ·injection h with h;subst h;exact ⟨fun c hc=>by simp [hc],fun e he=>he,rfl,rfl⟩
     ·split at h
      ·split at h
       ·rename_i st hp;injection h with h;subst h;obtain ⟨h1,h2,_⟩:=jR hp;exact ⟨fun c hc=>by simp [hc],fun e he=>he,h2,h1⟩
       ·simp at h
      ·split at h
       ·rename_i st hp;injection h with h;subst h;obtain ⟨h1,h2,_⟩:=jR hp;exact ⟨fun c hc=>by simp [hc],fun e he=>by simp [he],h2,h1⟩
       ·simp at h
theorem uU {cf:dX} {ops:Array Oper} {ov:Ov}:∀(l:List Oper) {ac jA : Acc},oW cf ops ov l ac=some jA→(∀c∈ac.cs,c∈jA.cs)∧(∀e∈ac.es,e∈jA.es)∧jA.st.m=ac.st.m∧jA.st.n=ac.st.n
 | [],ac,jA,h=>by simp [oW] at h;subst h;exact ⟨fun _ h=>h,fun _ h=>h,rfl,rfl⟩
 | o::r,ac,jA,h=>by
   simp only [oW] at h;cases h1:xX cf ops ov o ac with
   | none=>rw [h1] at h;simp at h
   | some a1=>
     rw [h1] at h;simp only at h;obtain ⟨p1,p2,p3,p4⟩:=D5 h1;obtain ⟨q1,q2,q3,q4⟩:=uU r h;exact ⟨fun c hc=>q1 c (p1 c hc),fun e he=>q2 e (p2 e he),q3.trans p3,q4.trans p4⟩
theorem gq {κ:bE} {φ:bP} {w:World} {s:cu} {a:Act} (F:aA κ φ w s a) {ops:Array Oper} {o:Oper} {g:Bool} (h:guardOf s.R ops o=some g)
 (hn:∀j want gg t,o.guard=some (j,want)→ops[j]? = some gg→gg.dst=some t→t < s.n):Region.wanted o (yielded ops a.tmps)=g:=by
 unfold guardOf at h;unfold Region.wanted;cases hg:o.guard with
 | none=>rw [hg] at h;simp at h;simp [h]
 | some p=>
   obtain ⟨j,want⟩:=p;rw [hg] at h;simp only at h;cases ho:ops[j]? with
   | none=>rw [ho] at h;simp at h
   | some gg=>
     rw [ho] at h;simp only at h;cases hd:gg.dst with
     | none=>rw [hd] at h;simp at h
     | some t=>
       rw [hd] at h;simp only at h;have hr:=F.regs t;cases hR:s.R t<;>rw [hR] at h hr<;>(try simp only at h)<;>try (simp at h;done)
       case und=>
        injection h with h;subst h;have hlt:t < a.tmps.size:=by rw [F.n];exact hn j want gg t hg ho hd
        generalize hv:a.tmps.getD t undef=v at hr;cases hr
        have hget:a.tmps[t]? = some undef:=by
         rw [Array.getElem?_eq_getElem hlt];rw [Array.getD_eq_getD_getElem?,Array.getElem?_eq_getElem hlt] at hv;simpa using hv
        simp only [yielded,ho,Option.bind_some,hd,hget];cases want<;>rfl
       rename_i x;cases x<;>(try simp only at h)<;>try (simp at h;done)
       rename_i b;injection h with h;subst h;have hlt:t < a.tmps.size:=by rw [F.n];exact hn j want gg t hg ho hd
       generalize hv:a.tmps.getD t undef=v at hr;cases hr with
       | d hr=>
       cases hr
       have hget:a.tmps[t]? = some (.bool b):=by
        rw [Array.getElem?_eq_getElem hlt];rw [Array.getD_eq_getD_getElem?,Array.getElem?_eq_getElem hlt] at hv;simpa using hv
       simp only [yielded,ho,Option.bind_some,hd,hget];cases b<;>cases want<;>rfl
theorem KS {κ:bE} {φ:bP} {w:World} {a:Act} {cf:dX} (hcf:jE P cf) {ops:Array Oper} {ov:Ov} {o:Oper} {ac jA : Acc} (F:aA κ φ w ac.st.den a)
 (h:xX cf ops ov o ac=some jA) (hc:∀c∈jA.cs,c=true) (he:∀e∈jA.es,jF e.1 e.2) {i:Nat} (hi:ops[i]? = some o)
 (hn:∀j want gg t,o.guard=some (j,want)→ops[j]? = some gg→gg.dst=some t→t < ac.st.n) {Q:Exit→Act→World→Prop} {K:Act→World→Prop}
 (hk:∀a' w' κ' φ',aA κ' φ' w' jA.st.den a'→Fr κ w κ' w'→Kp φ ac.st.den.O φ' jA.st.den.O→K a' w'):wpOp P ops Q i K a w:=by
 unfold xX at h;unfold wpOp;rw [hi];simp only;split at h
 ·simp at h
 ·rename_i hg;have hw:=gq (s:=ac.st.den) F hg hn;rw [hw];simp only [Bool.false_eq_true,if_false];split at h
  ·rename_i st hp;injection h with h;subst h;have hden:=jR hp;refine hk _ _ κ φ (F.mM hp .und) (Fr.refl _ _) ?_
   have:st.den.O=ac.st.den.O:=by simp only [jN.den,hden.2.2.1]
   simp only [this];exact Kp.refl _ _
  ·simp at h
 ·rename_i hg;have hw:=gq (s:=ac.st.den) F hg hn;rw [hw];simp only [if_true];left;split at h
  ·simp at h
  ·rename_i res un hex;cases hs:oV res.upd with
   | false=>rw [hs] at h;simp at h
   | true=>
     rw [hs] at h;simp only [cond_true] at h;have hO:(ji ac.st.objs res.upd).get=aX ac.st.den.O res.upd:=rT _ _ hs
     have fin:∀(st:jN) (rv:RV),mM { ac.st with objs:=ji ac.st.objs res.upd } o.dst rv=some st→jF res.val rv→(∀c∈res.conds,c=true)→jA.st=st→
      o.wp P a w K Q:=by
      intro st rv hp hle hcc hst;refine DY hcf F (sl:=KR ac.st o) hex hcc (fun v w' κ' φ' g1 g2 g3 g4=>?_)
      have F1:aA κ' φ' w' ({ ac.st with objs:=ji ac.st.objs res.upd }:jN).den a:=by
       have:({ ac.st with objs:=ji ac.st.objs res.upd }:jN).den = { ac.st.den with O:=aX ac.st.den.O res.upd }:=by simp only [jN.den,hO]
       rw [this];exact g1
      have hden:=jR hp;have e2:st.den.O=aX ac.st.den.O res.upd:=by simp only [jN.den,hden.2.2.1];exact hO
      refine hk _ _ κ' φ' ?_ g3 ?_
      ·rw [hst];refine F1.mM hp (hle _ _ _ _ _ ?_)
       have:({ ac.st with objs:=ji ac.st.objs res.upd }:jN).den.O=aX ac.st.den.O res.upd:=hO
       rw [this];exact g2
      ·rw [hst,e2];exact g4
     split at h
     ·rename_i hd;injection h with h;subst h;exact fin { ac.st with objs:=ji ac.st.objs res.upd } res.val (by rw [hd];rfl) (fun _ _ _ _ _ r=>r) (fun c hcc=>hc c (by simp [hcc])) rfl
     ·rename_i d hd;split at h
      ·split at h
       ·rename_i st hp;injection h with h;subst h;exact fin st res.val (by rw [hd];exact hp) (fun _ _ _ _ _ r=>r) (fun c hcc=>hc c (by simp [hcc])) rfl
       ·simp at h
      ·rename_i v hv;split at h
       ·rename_i st hp;injection h with h;subst h;exact fin st v (by rw [hd];exact hp) (he (res.val,v) (by simp)) (fun c hcc=>hc c (by simp [hcc])) rfl
       ·simp at h
def dF (n:Nat) (ops:Array Oper):Bool:=ops.toList.all fun o=>match o.dst with
 | some t=>Nat.ble (t+1) n
 | none=>true
theorem dw {n:Nat} {ops:Array Oper} (h:dF n ops=true):∀(j:Nat) (gg:Oper) (t:Nat),ops[j]? = some gg→gg.dst=some t→t < n:=by
 intro j gg t hj ht;have hm:gg∈ops.toList:=List.mem_iff_getElem?.2 ⟨j,by simpa using hj⟩
 have:=List.all_eq_true.1 h gg hm
 rw [ht] at this;exact Nat.le_of_ble_eq_true this
theorem Ab {cf:dX} (hcf:jE P cf) {ops:Array Oper} {ov:Ov} {Q:Exit→Act→World→Prop}:∀(l:List Oper) (k:Nat) {κ:bE} {φ:bP} {w:World} {a:Act} {ac jA : Acc},
 aA κ φ w ac.st.den a→oW cf ops ov l ac=some jA→(∀c∈jA.cs,c=true)→(∀e∈jA.es,jF e.1 e.2)→dF ac.st.n ops=true→(∀i o,l[i]? = some o→ops[k+i]? = some o)→
 (∀a' w' κ' φ',aA κ' φ' w' jA.st.den a'→Fr κ w κ' w'→Kp φ ac.st.den.O φ' jA.st.den.O→Q .normal a' w')→wpOps P ops Q (List.range' k l.length) a w
 | [],k,κ,φ,w,a,ac,jA,F,h,hc,he,hg,hl,hk=>by
   simp [oW] at h;subst h;exact hk a w κ φ F (Fr.refl _ _) (Kp.refl _ _)
 | o::r,k,κ,φ,w,a,ac,jA,F,h,hc,he,hg,hl,hk=>by
   simp only [oW] at h;cases h1:xX cf ops ov o ac with
   | none=>rw [h1] at h;simp at h
   | some a1=>
     rw [h1] at h;simp only at h;obtain ⟨q1,q2,q3,q4⟩:=uU r h;obtain ⟨p1,p2,p3,p4⟩:=D5 h1;have hk0:ops[k]? = some o:=by simpa using hl 0 o rfl
     simp only [List.length_cons,List.range'_succ];rw [wpOps_cons];refine KS hcf F h1 (fun c hc'=>hc c (q1 c hc')) (fun e he'=>he e (q2 e he')) hk0 (fun j want gg t _ hj ht=>dw hg j gg t hj ht) (fun a' w' κ' φ' g1 g2 g3=>?_);exact Ab hcf r (k+1) g1 h hc he (by rw [p4];exact hg) (fun i o' hi=>by have:=hl (i+1) o' (by simpa using hi);rw [←this];congr 1;omega) (fun a2 w2 κ2 φ2 k1 k2 k3=>hk a2 w2 κ2 φ2 k1 (g2.trans k2) (g3.trans k3))
inductive It where
 | code (c:Code)
 | blk (id:Nat)
 | lp (c:Code)
 | scp (c:Code)
def It.item:It→Item
 | .code c=>.code c
 | .blk id=>.inBlock id
 | .lp c=>.inLoop c
 | .scp c=>.inScope c
structure nP (m:Nat) (φ:bP) (O:Tab) (φ' : bP) (O' : Tab):Prop where
 phi:∀i,i < m→φ i≠.un→φ' i=φ i
 len:∀i n,i < m→φ i≠.un→av.dB (O' i)=some n→av.dB (O i)=some n
theorem Kp.m {φ φ' : bP} {O O' : Tab} (h:Kp φ O φ' O') (m:Nat):nP m φ O φ' O':=⟨fun i _ hi=>h.phi i hi,fun i n _ hi hn=>h.len i n hi hn⟩
theorem nP.refl (m:Nat) (φ:bP) (O:Tab):nP m φ O φ O:=(Kp.refl φ O).m m
theorem nP.trans {m:Nat} {φ φ' φ'' : bP} {O O' Qr : Tab} (a:nP m φ O φ' O') (b:nP m φ' O' φ'' Qr):nP m φ O φ'' Qr where
 phi:=fun i hm hi=>by rw [b.phi i hm (by rw [a.phi i hm hi];exact hi),a.phi i hm hi]
 len:=fun i n hm hi hn=>a.len i n hm hi (b.len i n hm (by rw [a.phi i hm hi];exact hi) hn)
def WK (P:Program) (m:Nat) (k:List It) (s:cu) (Q:cu→Prop):Prop:=
 ∀(κ:bE) (φ:bP) (w:World) (a:Act),aA κ φ w s a→∀(b:Frame) (cs:List Frame),∃e a' w' κ' φ' s',(e = .normal∨e = .ret)∧Q s'∧aA κ' φ' w' s' a'∧
  Fr κ w κ' w'∧nP m φ s.O φ' s'.O∧Arrives P (lone (b.at a (k.map It.item)) cs w) b [] cs e a' w'
theorem WK.done {m:Nat} {s:cu} {Q:cu→Prop} (h:Q s):WK P m [] s Q:=fun κ φ w a F _ _=>
 ⟨.normal,a,w,κ,φ,s,.inl rfl,h,F,Fr.refl _ _,nP.refl _ _ _,Steps.refl _ _⟩
theorem WK.step {m:Nat} {k k' : List It} {s s' : cu} {Q:cu→Prop} (h:WK P m k' s' Q)
 (hs:∀κ φ w a,aA κ φ w s a→∃κ' φ' w' a',aA κ' φ' w' s' a'∧Fr κ w κ' w'∧nP m φ s.O φ' s'.O∧∀(b:Frame) (cs:List Frame),Steps P (lone (b.at a (k.map It.item)) cs w) (lone (b.at a' (k'.map It.item)) cs w')):WK P m k s Q:=by
 intro κ φ w a F b cs;obtain ⟨κ1,φ1,w1,a1,F1,R1,K1,S1⟩:=hs κ φ w a F;obtain ⟨e,a',w',κ',φ',s2,h1,h2,h3,h4,h5,h6⟩:=h κ1 φ1 w1 a1 F1 b cs;exact ⟨e,a',w',κ',φ',s2,h1,h2,h3,R1.trans h4,K1.trans h5,h6.of_steps (S1 b cs)⟩
theorem WK.code {m:Nat} {k k' : List It} {s:cu} {Q:cu→Prop} (h:WK P m k' s Q) (hs:∀κ φ w a,aA κ φ w s a→∀(b:Frame) (cs:List Frame),Steps P (lone (b.at a (k.map It.item)) cs w) (lone (b.at a (k'.map It.item)) cs w)):WK P m k s Q:=
 h.step fun κ φ w a F=>⟨κ,φ,w,a,F,Fr.refl _ _,nP.refl _ _ _,hs κ φ w a F⟩
theorem WK.state {m:Nat} {k:List It} {s s' : cu} {Q:cu→Prop} (h:WK P m k s' Q) (hs:∀κ φ w a,aA κ φ w s a→∃κ' φ',aA κ' φ' w s' a∧Fr κ w κ' w∧nP m φ s.O φ' s'.O):WK P m k s Q:=
 h.step fun κ φ w a F=>let ⟨κ',φ',h1,h2,h3⟩:=hs κ φ w a F;⟨κ',φ',w,a,h1,h2,h3,fun _ _=>Steps.refl _ _⟩
theorem WK.skip {m:Nat} {k:List It} {s:cu} {Q:cu→Prop} (h:WK P m k s Q):WK P m (.code .skip::k) s Q:=h.code fun _ _ _ _ _ _ _=>.one step_skip
theorem WK.seq {m:Nat} {x y:Code} {k:List It} {s:cu} {Q:cu→Prop} (h:WK P m (.code x :: .code y::k) s Q):WK P m (.code (.seq x y)::k) s Q:=h.code fun _ _ _ _ _ _ _=>.one step_seq
theorem WK.block {m id:Nat} {x:Code} {k:List It} {s:cu} {Q:cu→Prop} (h:WK P m (.code x :: .blk id::k) s Q):WK P m (.code (.block id x)::k) s Q:=h.code fun _ _ _ _ _ _ _=>.one step_block
theorem WK.blk {m id:Nat} {k:List It} {s:cu} {Q:cu→Prop} (h:WK P m k s Q):WK P m (.blk id::k) s Q:=h.code fun _ _ _ _ _ _ _=>.one step_inBlock
theorem WK.enter {m:Nat} {x:Code} {k:List It} {s:cu} {Q:cu→Prop} (h:WK P m (.code x :: .lp x::k) s Q):WK P m (.code (.loop x)::k) s Q:=h.code fun _ _ _ _ _ _ _=>.one step_loop
theorem WK.scope {m:Nat} {x:Code} {k:List It} {s:cu} {Q:cu→Prop} (h:WK P m (.code x :: .scp x::k) s Q):WK P m (.code (.scope x)::k) s Q:=h.code fun _ _ _ _ _ _ _=>.one step_scope
theorem WK.scp {m:Nat} {x:Code} {k:List It} {s:cu} {Q:cu→Prop} (h:WK P m k s Q):WK P m (.scp x::k) s Q:=h.code fun _ _ _ _ _ _ _=>.one step_inScope
theorem WK.label {m l:Nat} {k:List It} {s:cu} {Q:cu→Prop} (h:WK P m k s Q):WK P m (.code (.label l)::k) s Q:=h.code fun _ _ _ _ _ _ _=>.one step_label
theorem WK.again {m:Nat} {x:Code} {k:List It} {s:cu} {Q:cu→Prop} (h:WK P m (.code x :: .lp x::k) s Q):WK P m (.lp x::k) s Q:=h.code fun _ _ _ _ _ _ _=>.one step_inLoop
theorem WK.ret {m:Nat} {k:List It} {s:cu} {Q:cu→Prop} (h:Q s):WK P m (.code .ret::k) s Q:=fun κ φ w a F _ _=>
 ⟨.ret,a,w,κ,φ,s,.inr rfl,h,F,Fr.refl _ _,nP.refl _ _ _,_,.one step_ret⟩
def lD (id:Nat):List It→Option (List It)
 | []=>none
 | .blk j::k=>bif Nat.beq j id then some k else lD id k
 | .code _::k=>lD id k
 | .lp _::k=>lD id k
 | .scp _::k=>lD id k
theorem lF (id:Nat):∀(k k' : List It),lD id k=some k'→exitTo id (k.map It.item)=some (k'.map It.item)
 | [],k',h=>by simp [lD] at h
 | .blk j::k,k',h=>by
   simp only [lD] at h;simp only [List.map_cons,It.item,exitTo];cases hb:Nat.beq j id with
   | true=>rw [hb] at h;simp at h;subst h;have:=cB hb;subst this;simp
   | false=>
     rw [hb] at h;simp only [cond_false] at h
     have hne:(j==id)=false:=by
      cases e:j==id with
      | false=>rfl
      | true=>have:=eq_of_beq e;subst this;rw [vK rfl] at hb;cases hb
     simp [hne,lF id k k' h]
 | .code c::k,k',h=>by simp only [lD] at h;simp [It.item,exitTo,lF id k k' h]
 | .lp c::k,k',h=>by simp only [lD] at h;simp [It.item,exitTo,lF id k k' h]
 | .scp c::k,k',h=>by simp only [lD] at h;simp [It.item,exitTo,lF id k k' h]
theorem WK.exit {m id:Nat} {k k' : List It} {s:cu} {Q:cu→Prop} (he:lD id k=some k') (h:WK P m k' s Q):WK P m (.code (.exit id)::k) s Q:=
 h.code fun _ _ _ _ _ _ _=>.one (step_exit (lF id k k' he))
theorem WK.cond {m:Nat} {c:Operand} {x y:Code} {k:List It} {s:cu} {Q:cu→Prop} {t:Bool} (hc:aN s.R c = .d (.bool t)) (h:WK P m (.code (if t then x else y)::k) s Q):WK P m (.code (.cond c x y)::k) s Q:=
 h.code fun κ φ w a F b cs=>by
  have r:=bA F c;rw [hc] at r;generalize hv:a.eval c=v at r;cases r with
  | d hr=>cases hr;exact .one (step_cond hv)
theorem WK.region {m id:Nat} {ops:Array Oper} {k:List It} {s s' : cu} {Q:cu→Prop}
 (hr:∀κ φ w a,aA κ φ w s a→wpOps P ops (fun e a' w'=>e = .normal∧∃κ' φ',aA κ' φ' w' s' a'∧Fr κ w κ' w'∧nP m φ s.O φ' s'.O) (List.range ops.size) a w)
 (h:WK P m k s' Q):WK P m (.code (.region id ops false)::k) s Q:=by
 intro κ φ w a F b cs;obtain ⟨e,a1,w1,⟨rfl,κ1,φ1,F1,R1,K1⟩,harr⟩:=wp_region (id:=id) (hr κ φ w a F) b (k.map It.item) cs;obtain ⟨e,a',w',κ',φ',s2,h1,h2,h3,h4,h5,h6⟩:=h κ1 φ1 w1 a1 F1 b cs;exact ⟨e,a',w',κ',φ',s2,h1,h2,h3,R1.trans h4,K1.trans h5,h6.of_steps harr⟩
theorem WK.tq {m id:Nat} {ops:Array Oper} {k:List It} {s s' : cu} {Q:cu→Prop} (fG:P.follows .mixedOrders=true)
 (hr:∀κ φ w a,aA κ φ w s a→wpAny P .any ops (fun e a' w'=>e = .normal∧∃κ' φ',aA κ' φ' w' s' a'∧Fr κ w κ' w'∧nP m φ s.O φ' s'.O) ops.size (Array.replicate ops.size false) a w)
 (h:WK P m k s' Q):WK P m (.code (.region id ops true)::k) s Q:=by
 intro κ φ w a F b cs;have F' : aA κ φ { w with drawn:=w.drawn+1 } s a:=⟨F.regs,F.objs,⟨F.bnd.lt,F.bnd.gl⟩,F.n,F.df⟩;obtain ⟨e,a1,w1,⟨rfl,κ1,φ1,F1,R1,K1⟩,harr⟩:=wp_region_any (id:=id) fG (hr κ φ { w with drawn:=w.drawn+1 } a F') b (k.map It.item) cs;obtain ⟨e,a',w',κ',φ',s2,h1,h2,h3,h4,h5,h6⟩:=h κ1 φ1 w1 a1 F1 b cs;exact ⟨e,a',w',κ',φ',s2,h1,h2,h3,Fr.trans (κ':=κ1) (w':=w1) ⟨R1.size,R1.dN,R1.kQ,R1.wQ,R1.os,R1.out⟩ h4,K1.trans h5,h6.of_steps harr⟩
theorem lG {R R' : Nat→RV} {x:Operand} (h:∀t,x = .tmp t→R t=R' t):aN R x=aN R' x:=by
 cases x with
 | tmp t=>exact h t rfl
 | _=>rfl
theorem jk {R R' : Nat→RV} {l:List Operand} (h:∀x∈l,aN R x=aN R' x):l.map (aN R)=l.map (aN R'):=List.map_congr_left h
theorem D6 {cf:dX} {R R' : Nat→RV} {O:Tab} {sl:Nat} {o:Oper} (h:∀x∈o.op.operands,aN R x=aN R' x):sV cf R O sl o=sV cf R' O sl o:=by
 unfold sV;cases ho:o.op<;>rw [ho] at h<;>simp only [Op.operands] at h
 case move x=>simp [h x (by simp)]
 case assign x=>simp [h x (by simp)]
 case pick c x y=>simp only [h c (by simp),h x (by simp),h y (by simp)]
 case box t x=>simp only [h x (by simp)]
 case build t parts=>
  have:(parts.toList.map fun p=>(p.1,aN R p.2))=(parts.toList.map fun p=>(p.1,aN R' p.2)):=List.map_congr_left fun p hp=>by
   rw [h p.2 (by simp;exact ⟨p.1,by simpa using hp⟩)]
  simp only [this]
 case buildSlice t n parts=>
  have:(parts.toList.map fun p=>(p.1,aN R p.2))=(parts.toList.map fun p=>(p.1,aN R' p.2)):=List.map_congr_left fun p hp=>by
   rw [h p.2 (by simp;exact ⟨p.1,by simpa using hp⟩)]
  simp only [this]
 case load t x=>simp only [h x (by simp)]
 case store t x y=>simp only [h x (by simp),h y (by simp)]
 case nilCheck x=>simp only [h x (by simp)]
 case binOp op t x y yt=>simp only [h x (by simp),h y (by simp)]
 case unOp op t x=>simp only [h x (by simp)]
 case convert s d x=>simp only [h x (by simp)]
 case slice t x lo hi mx=>
  have h1:lo.map (aN R)=lo.map (aN R'):=by cases lo with | none=>rfl | some y=>simp [h y (by simp)]
  have h2:hi.map (aN R)=hi.map (aN R'):=by cases hi with | none=>rfl | some y=>simp [h y (by simp)]
  have h3:mx.map (aN R)=mx.map (aN R'):=by cases mx with | none=>rfl | some y=>simp [h y (by simp)]
  simp only [h x (by simp),h1,h2,h3]
 case fieldAddr t x f=>simp only [h x (by simp)]
 case field t x f=>simp only [h x (by simp)]
 case indexAddr t x i=>simp only [h x (by simp),h i (by simp)]
 case index t x i=>simp only [h x (by simp),h i (by simp)]
 case extract x i=>simp only [h x (by simp)]
 case makeFunc fn first caps=>
  have h1:first.toList.map (aN R)=first.toList.map (aN R'):=jk fun x hx=>h x (by simp;left;simpa using hx);have h2:caps.toList.map (aN R)=caps.toList.map (aN R'):=jk fun x hx=>h x (by simp;right;simpa using hx);simp only [h1,h2]
 case makeSlice t l c=>simp only [h l (by simp),h c (by simp)]
 case makeMap t r=>
  have:r.map (aN R)=r.map (aN R'):=by cases r with | none=>rfl | some y=>simp [h y (by simp)]
  simp only [this]
 case lookup t x i ok=>simp only [h x (by simp),h i (by simp)]
 case mapUpdate t m k v=>simp only [h m (by simp),h k (by simp),h v (by simp)]
 case call c=>
  have h1:c.args.toList.map (aN R)=c.args.toList.map (aN R'):=jk fun x hx=>h x (by simp [Call.operands];right;simpa using hx);simp only [h1];cases zl:c.callee with
  | value f=>simp only [h f (by simp [Call.operands,zl])]
  | _=>rfl
 all_goals rfl
theorem D7 {cf:dX} {R R' : Nat→RV} {O:Tab} {sl:Nat} {o:Oper} (h:∀x∈o.op.operands,aN R x=aN R' x):sW cf R O sl o=sW cf R' O sl o:=by
 unfold sW;cases ho:o.op<;>rw [ho] at h<;>simp only [Op.operands] at h
 case box t x=>try simp only [h x (by simp)]
 case buildSlice t n parts=>
  have:(parts.toList.map fun p=>(p.1,aN R p.2))=(parts.toList.map fun p=>(p.1,aN R' p.2)):=List.map_congr_left fun p hp=>by
   rw [h p.2 (by simp;exact ⟨p.1,by simpa using hp⟩)]
  try simp only [this]
 case load t x=>try simp only [h x (by simp)]
 case store t x y=>try simp only [h x (by simp),h y (by simp)]
 case binOp op t x y yt=>try simp only [h x (by simp),h y (by simp)]
 case convert s d x=>try simp only [h x (by simp)]
 case slice t x lo hi mx=>
  have h1:lo.map (aN R)=lo.map (aN R'):=by cases lo with | none=>rfl | some y=>simp [h y (by simp)]
  have h2:hi.map (aN R)=hi.map (aN R'):=by cases hi with | none=>rfl | some y=>simp [h y (by simp)]
  have h3:mx.map (aN R)=mx.map (aN R'):=by cases mx with | none=>rfl | some y=>simp [h y (by simp)]
  try simp only [h x (by simp),h1,h2,h3]
 case indexAddr t x i=>try simp only [h x (by simp),h i (by simp)]
 case makeFunc fn first caps=>
  have h1:first.toList.map (aN R)=first.toList.map (aN R'):=jk fun x hx=>h x (by simp;left;simpa using hx);have h2:caps.toList.map (aN R)=caps.toList.map (aN R'):=jk fun x hx=>h x (by simp;right;simpa using hx)
  try simp only [h1,h2]
 case makeSlice t l c=>try simp only [h l (by simp),h c (by simp)]
 case sliceToArrayPointer t x=>try simp only [h x (by simp)]
 case range t x=>try simp only [h x (by simp)]
 case next x str=>try simp only [h x (by simp)]
 case call c=>
  have h1:c.args.toList.map (aN R)=c.args.toList.map (aN R'):=jk fun x hx=>h x (by simp [Call.operands];right;simpa using hx)
  try simp only [h1]
theorem Jg {E:Env} {R R' : Nat→RV} {o:Oper} (h:∀x∈o.op.operands,aN R x=aN R' x):VJ E R o=VJ E R' o:=by
 unfold VJ;cases ho:o.op<;>rw [ho] at h<;>simp only [Op.operands] at h
 case binOp op t x y yt=>try simp only [h x (by simp),h y (by simp)]
 case convert s d x=>try simp only [h x (by simp)]
 case slice t x lo hi mx=>simp only [h x (by simp)]
 case indexAddr t x i=>simp only [h x (by simp)]
 case load t x=>simp only [h x (by simp)]
 case call c=>
  have h1:c.args.toList.map (aN R)=c.args.toList.map (aN R'):=jk fun x hx=>h x (by simp [Call.operands];right;simpa using hx)
  try simp only [h1]
theorem nW {cf:dX} {R R' : Nat→RV} {O:Tab} {sl:Nat} {o:Oper} (h:∀x∈o.op.operands,aN R x=aN R' x):mK cf R O sl o=mK cf R' O sl o:=by
 unfold mK;rw [Jg h,D7 h,D6 h]
def kG (cf:dX) (ops:Array Oper) (ov:Ov) (R:Nat→RV) (O:Tab) (o:Oper):Option (RV×List Bool×List (RV×RV)):=
 match guardOf R ops o with
 | none=>none
 | some false=>some (.und,[],[])
 | some true=>match mK cf R O 0 o with
   | none=>none
   | some (res,_)=>bif res.upd.isEmpty then
      match o.dst with
      | none=>some (.bot,res.conds,[])
      | some d=>match uT d ov with
        | none=>some (res.val,res.conds,[])
        | some v=>some (v,res.conds,[(res.val,v)])
     else none
def iX (R:Nat→RV) (dst:Option Nat) (v:RV):Nat→RV:=
 match dst with
 | none=>R
 | some d=>jh R d v
theorem aA.iX {κ:bE} {φ:bP} {w:World} {s:cu} {a:Act} (F:aA κ φ w s a) {dst:Option Nat} {rv:RV} {v:Value} (hd:∀d,dst=some d→d < s.n)
 (hr:bJ κ φ s.O w.heap rv v):aA κ φ w { s with R:=Am.iX s.R dst rv } (a.put dst v):=by
 cases dst with
 | none=>exact F.wU v
 | some d=>exact F.put (hd d rfl) hr
theorem BJ {κ:bE} {φ:bP} {w:World} {s:cu} {a:Act} {cf:dX} (hcf:jE P cf) {ops:Array Oper} {ov:Ov} {o:Oper} {v:RV} {cs:List Bool} {es:List (RV×RV)} (F:aA κ φ w s a)
 (h:kG cf ops ov s.R s.O o=some (v,cs,es)) (hc:∀c∈cs,c=true) (he:∀e∈es,jF e.1 e.2) {i:Nat} (hi:ops[i]? = some o)
 (hn:∀(j:Nat) (gg:Oper) (t:Nat),ops[j]? = some gg→gg.dst=some t→t < s.n) {Q:Exit→Act→World→Prop} {K:Act→World→Prop}
 (hk:∀a' w' κ' φ',aA κ' φ' w' { s with R:=iX s.R o.dst v } a'→Fr κ w κ' w'→Kp φ s.O φ' s.O→K a' w'):wpOp P ops Q i K a w:=by
 unfold kG at h;unfold wpOp;rw [hi];simp only;have hdst:∀d,o.dst=some d→d < s.n:=fun d hd=>hn i o d hi hd;split at h
 ·simp at h
 ·rename_i hg;rw [gq F hg (fun j want gg t _ hj ht=>hn j gg t hj ht)];simp only [Bool.false_eq_true,if_false];injection h with h;injection h with h1 h2;subst h1;exact hk _ _ κ φ (F.iX hdst .und) (Fr.refl _ _) (Kp.refl _ _)
 ·rename_i hg;rw [gq F hg (fun j want gg t _ hj ht=>hn j gg t hj ht)];simp only [if_true];left;split at h
  ·simp at h
  ·rename_i res un hex;cases hu:res.upd.isEmpty with
   | false=>rw [hu] at h;simp at h
   | true=>
     rw [hu] at h;simp only [cond_true] at h;have hu' : res.upd=[]:=by simpa using hu
     have fin:∀rv,v=rv→jF res.val rv∨o.dst=none→(∀c∈res.conds,c=true)→o.wp P a w K Q:=by
      rintro rv rfl hle hcc
      refine DY hcf F (sl:=0) hex hcc (fun u w' κ' φ' g1 g2 g3 g4=>?_);rw [hu'] at g1 g2 g4;refine hk _ _ κ' φ' ?_ g3 g4;rcases hle with hle | hle
      ·exact aA.iX (s:=s) g1 hdst (hle _ _ _ _ _ g2)
      ·rw [hle];exact g1
     split at h
     ·rename_i hd;injection h with h;injection h with h1 h2;injection h2 with h2 h3;subst h2;exact fin v rfl (.inr hd) hc
     ·split at h
      ·injection h with h;injection h with h1 h2;injection h2 with h2 h3;subst h2;exact fin v rfl (.inl (h1▸fun _ _ _ _ _ r=>r)) hc
      ·rename_i vv hv;injection h with h;injection h with h1 h2;injection h2 with h2 h3;subst h2;subst h3;subst h1;exact fin _ rfl (.inl (he (res.val,vv) (by simp))) hc
def looks (o:Oper) (ops:Array Oper):List Nat:=
 o.op.operands.toList.filterMap (fun x=>match x with | .tmp t=>some t | _=>none) ++
 (match o.guard with
   | some (j,_)=>match ops[j]? with
     | some g=>g.dst.toList
     | none=>[]
   | none=>[])
def BK (o:Oper) (i:Nat):Bool:=o.after.any fun e=>Nat.beq e.on i&&Region.binds .any e
def quietAt (ops:Array Oper) (j:Nat) (o:Oper):Bool:=
 (o.after.all fun e=>!(Region.binds .any e)||Nat.ble (e.on+1) j) &&
 ops.toList.zipIdx.all fun (p,i)=>match p.dst with
  | none=>true
  | some d=>(Nat.beq i j||(match o.dst with | some d'=>!(Nat.beq d d') | none=>true)) &&
     (!((looks o ops).any fun t=>Nat.beq t d)||(Nat.ble (i+1) j&&BK o i)||(Nat.ble (j+1) i&&BK p j))
def iP (ops:Array Oper):Bool:=ops.toList.zipIdx.all fun (o,j)=>quietAt ops j o
theorem dh {ops:Array Oper} (h:iP ops=true) {j:Nat} {o:Oper} (hj:ops[j]? = some o) :
 (∀e∈o.after,Region.binds .any e=true→e.on < j)∧
 ∀(i:Nat) (p:Oper) (d:Nat),ops[i]? = some p→p.dst=some d→(i=j∨o.dst≠some d)∧(d∈looks o ops→(i < j∧∃e∈o.after,e.on=i∧Region.binds .any e=true)∨(j < i∧∃e∈p.after,e.on=j∧Region.binds .any e=true)):=by
 have hm:(o,j)∈ops.toList.zipIdx:=by
  rw [List.mem_zipIdx_iff_getElem?];simpa using hj
 have h1:=List.all_eq_true.1 h _ hm;simp only [quietAt,Bool.and_eq_true] at h1;refine ⟨fun e he hb=>?_,fun i p d hi hd=>?_⟩
 ·have:=Array.all_eq_true'.1 h1.1 e he
  simp only [Bool.or_eq_true,Bool.not_eq_true'] at this;rcases this with this | this
  ·rw [hb] at this;cases this
  ·exact Nat.le_of_ble_eq_true this
 ·have hm2:(p,i)∈ops.toList.zipIdx:=by
   rw [List.mem_zipIdx_iff_getElem?];simpa using hi
  have h2:=List.all_eq_true.1 h1.2 _ hm2;simp only [hd,Bool.and_eq_true,Bool.or_eq_true,Bool.not_eq_true'] at h2;refine ⟨?_,fun hl=>?_⟩
  ·rcases h2.1 with h3 | h3
   ·exact .inl (cB h3)
   ·right;intro e;rw [e] at h3;simp only [Bool.not_eq_true'] at h3;rw [vK rfl] at h3;cases h3
  ·rcases h2.2 with (h3 | h3) | h3
   ·exfalso
    have:=List.any_eq_false.1 h3 d hl
    rw [vK rfl] at this;simp at this
   ·refine .inl ⟨Nat.le_of_ble_eq_true h3.1,?_⟩;have h4:=h3.2;simp only [BK,Array.any_eq_true',Bool.and_eq_true] at h4;obtain ⟨e,he1,he2,xY⟩:=h4;exact ⟨e,he1,cB he2,xY⟩
   ·refine .inr ⟨Nat.le_of_ble_eq_true h3.1,?_⟩;have h4:=h3.2;simp only [BK,Array.any_eq_true',Bool.and_eq_true] at h4;obtain ⟨e,he1,he2,xY⟩:=h4;exact ⟨e,he1,cB he2,xY⟩
def xZ (cf:dX) (ops:Array Oper) (ov:Ov) (O:Tab):List Oper→(T RV)→List Bool→List (RV×RV)→Option (T RV×List Bool×List (RV×RV))
 | [],t,cs,es=>some (t,cs,es)
 | o::r,t,cs,es=>match kG cf ops ov (bg t) O o with
   | none=>none
   | some (v,c,e)=>match o.dst with
     | none=>xZ cf ops ov O r t (cs++c) (es++e)
     | some d=>bif Nat.ble d 8000 then xZ cf ops ov O r (t.set d (some v)) (cs++c) (es++e) else none
theorem qo {cf:dX} {ops:Array Oper} {ov:Ov} {O:Tab}:∀(l:List Oper) (t t' : T RV) (cs cs' : List Bool) (es es' : List (RV×RV)),xZ cf ops ov O l t cs es=some (t',cs',es')→
 (∀c∈cs,c∈cs')∧(∀e∈es,e∈es')∧(∀d,(∀o∈l,o.dst≠some d)→bg t' d=bg t d)
 | [],t,t',cs,cs',es,es',h=>by
   simp [xZ] at h;obtain ⟨rfl,rfl,rfl⟩:=h;exact ⟨fun _ h=>h,fun _ h=>h,fun _ _=>rfl⟩
 | o::r,t,t',cs,cs',es,es',h=>by
   simp only [xZ] at h;cases h1:kG cf ops ov (bg t) O o with
   | none=>rw [h1] at h;simp at h
   | some p=>
     obtain ⟨v,c,e⟩:=p;rw [h1] at h;simp only at h;cases hd:o.dst with
     | none=>
       rw [hd] at h;simp only at h;obtain ⟨q1,q2,q3⟩:=qo r _ _ _ _ _ _ h;exact ⟨fun c hc=>q1 c (by simp [hc]),fun e he=>q2 e (by simp [he]),fun d hh=>q3 d (fun o ho=>hh o (by simp [ho]))⟩
     | some d0=>
       rw [hd] at h;simp only at h;cases hb:Nat.ble d0 8000 with
       | false=>rw [hb] at h;simp at h
       | true=>
         rw [hb] at h;simp only [cond_true] at h;obtain ⟨q1,q2,q3⟩:=qo r _ _ _ _ _ _ h;have hle:=Nat.le_of_ble_eq_true hb;refine ⟨fun c hc=>q1 c (by simp [hc]),fun e he=>q2 e (by simp [he]),fun d hh=>?_⟩;rw [q3 d (fun o ho=>hh o (by simp [ho])),jy (by omega)]
         have:d≠d0:=fun e=>hh o (by simp) (by rw [hd,e])
         simp [jh,this]
theorem Hu {cf:dX} {ops:Array Oper} {ov:Ov} {O:Tab}:∀(l:List Oper) (t t' : T RV) (cs cs' : List Bool) (es es' : List (RV×RV)),xZ cf ops ov O l t cs es=some (t',cs',es')→
 (∀(i j:Nat) (p q:Oper) (d:Nat),l[i]? = some p→l[j]? = some q→p.dst=some d→q.dst=some d→i=j)→
 ∀(j:Nat) (o:Oper),l[j]? = some o→∃(R:Nat→RV) (v:RV) (c:List Bool) (e:List (RV×RV)),kG cf ops ov R O o=some (v,c,e)∧(∀x∈c,x∈cs')∧(∀x∈e,x∈es')∧
  (∀d,o.dst=some d→bg t' d=v)∧(∀d,(∀(i:Nat) (p:Oper),i < j→l[i]? = some p→p.dst≠some d)→R d=bg t d)∧
  (∀(i:Nat) (p:Oper) (d:Nat),i < j→l[i]? = some p→p.dst=some d→R d=bg t' d)
 | [],t,t',cs,cs',es,es',h,hnd,j,o,hj=>by simp at hj
 | o0::r,t,t',cs,cs',es,es',h,hnd,j,o,hj=>by
   simp only [xZ] at h;cases h1:kG cf ops ov (bg t) O o0 with
   | none=>rw [h1] at h;simp at h
   | some p=>
     obtain ⟨v,c,e⟩:=p;rw [h1] at h;simp only at h
     have hnd' : ∀(i j:Nat) (p q:Oper) (d:Nat),r[i]? = some p→r[j]? = some q→p.dst=some d→q.dst=some d→i=j:=fun i j p q d hi hj' hp hq=>by
      have:=hnd (i+1) (j+1) p q d (by simpa using hi) (by simpa using hj') hp hq;omega
     have tail:∀(t1:T RV),xZ cf ops ov O r t1 (cs++c) (es++e)=some (t',cs',es')→(∀d,o0.dst≠some d→bg t1 d=bg t d)→(∀d,o0.dst=some d→bg t1 d=v)→
      ∃(R:Nat→RV) (v:RV) (c:List Bool) (e:List (RV×RV)),kG cf ops ov R O o=some (v,c,e)∧(∀x∈c,x∈cs')∧(∀x∈e,x∈es')∧
       (∀d,o.dst=some d→bg t' d=v)∧(∀d,(∀(i:Nat) (p:Oper),i < j→(o0::r)[i]? = some p→p.dst≠some d)→R d=bg t d)∧
       (∀(i:Nat) (p:Oper) (d:Nat),i < j→(o0::r)[i]? = some p→p.dst=some d→R d=bg t' d):=by
      intro t1 hr ht1 ht2;obtain ⟨m1,m2,m3⟩:=qo r _ _ _ _ _ _ hr;cases j with
      | zero=>
        simp at hj;subst hj;refine ⟨bg t,v,c,e,h1,fun x hx=>m1 x (by simp [hx]),fun x hx=>m2 x (by simp [hx]),fun d hd=>?_,fun d _=>rfl,fun i p d hi=>by omega⟩
        rw [m3 d (fun q hq qN=>by
         obtain ⟨k,hk⟩:=List.mem_iff_getElem?.1 hq
         have:=hnd 0 (k+1) o0 q d rfl (by simpa using hk) hd qN;omega)]
        exact ht2 d hd
      | succ j=>
        obtain ⟨R,v',c',e',k1,k2,k3,k4,k5,k6⟩:=Hu r t1 t' _ _ _ _ hr hnd' j o (by simpa using hj);refine ⟨R,v',c',e',k1,k2,k3,k4,fun d hd=>?_,fun i p d hi hp wI=>?_⟩
        ·rw [k5 d (fun i p hi hp=>hd (i+1) p (by omega) (by simpa using hp))];exact ht1 d (hd 0 o0 (by omega) rfl)
        ·cases i with
         | zero=>
           simp at hp;subst hp
           rw [k5 d (fun i q hi hq qN=>by
            have:=hnd 0 (i+1) o0 q d rfl (by simpa using hq) wI qN;omega)]
           rw [m3 d (fun q hq qN=>by
            obtain ⟨k,hk⟩:=List.mem_iff_getElem?.1 hq
            have:=hnd 0 (k+1) o0 q d rfl (by simpa using hk) wI qN;omega)]
         | succ i=>exact k6 i p d (by omega) (by simpa using hp) wI
     cases hd:o0.dst with
     | none=>
       rw [hd] at h;simp only at h;exact tail t h (fun _ _=>rfl) (fun d hh=>by rw [hd] at hh;cases hh)
     | some d0=>
       rw [hd] at h;simp only at h;cases hb:Nat.ble d0 8000 with
       | false=>rw [hb] at h;simp at h
       | true=>
         rw [hb] at h;simp only [cond_true] at h;have hle:=Nat.le_of_ble_eq_true hb;refine tail _ h (fun d hh=>?_) (fun d hh=>?_)
         ·rw [jy (by omega)]
          have:d≠d0:=fun e=>hh (by rw [hd,e])
          simp [jh,this]
         ·rw [jy (by omega)];rw [hd] at hh;injection hh with hh;subst hh;simp [jh]
theorem mem_ready {md:Region.Mode} {ops:Array Oper} {L:Array Bool} {i:Nat} (h:i∈Region.ready md ops L) :
 ∃o,ops[i]? = some o∧i < ops.size∧L.getD i true=false∧∀e∈o.after,Region.binds md e=true→L.getD e.on false=true:=by
 simp only [Region.ready,List.mem_filter,List.mem_range,Bool.and_eq_true,Bool.not_eq_true'] at h;obtain ⟨h1,h2,h3⟩:=h;have ho:ops[i]? = some ops[i]:=by simp [h1]
 rw [ho] at h3;simp only [Option.map_some,Option.getD_some] at h3;refine ⟨_,ho,h1,h2,fun e he hb=>?_⟩
 have:=Array.all_eq_true'.1 h3 e he
 simp only [Bool.or_eq_true,Bool.not_eq_true'] at this;rcases this with this | this
 ·rw [hb] at this;cases this
 ·exact this
theorem ready_nil {md:Region.Mode} {ops:Array Oper} {L:Array Bool} (hL:L.size=ops.size) (hed:∀(j:Nat) (o:Oper),ops[j]? = some o→∀e∈o.after,Region.binds md e=true→e.on < j)
 (h:Region.ready md ops L=[]):∀i,i < ops.size→L.getD i true=true:=by
 intro i;induction i using Nat.strongRecOn with
 | _ i ih=>
   intro hi;cases hl:L.getD i true with
   | true=>rfl
   | false=>
     exfalso;have ho:ops[i]? = some ops[i]:=by simp [hi]
     have:i∈Region.ready md ops L:=by
      simp only [Region.ready,List.mem_filter,List.mem_range,Bool.and_eq_true,Bool.not_eq_true'];refine ⟨hi,hl,?_⟩;rw [ho];simp only [Option.map_some,Option.getD_some];rw [Array.all_eq_true'];intro e he;cases hb:Region.binds md e with
      | false=>simp
      | true=>
        have hlt:=hed i _ ho e he hb
        have:=ih e.on hlt (by omega)
        have hlt2:e.on < L.size:=by omega
        simp [Array.getD,hlt2] at this;simp [Array.getD,hlt2,this]
     rw [h] at this;simp at this
open Classical in
noncomputable def bU (ops:Array Oper) (R0 R1:Nat→RV) (L:Array Bool) (t:Nat):RV:=
 if ∃i o,ops[i]? = some o∧o.dst=some t∧L.getD i false=true then R1 t else R0 t
theorem count_set {L:Array Bool} {i:Nat} (hi:i < L.size) (h:L.getD i true=false):(L.setIfInBounds i true).toList.countP (· == false)+1=L.toList.countP (· == false):=by
 rw [Array.toList_setIfInBounds];have hi' : i < L.toList.length:=by simpa using hi
 have hv:L.toList[i]=false:=by simpa [Array.getD,hi] using h
 clear h hi;generalize L.toList=l at *;induction l generalizing i with
 | nil=>simp at hi'
 | cons x l ih=>
   cases i with
   | zero=>simp at hv;subst hv;simp
   | succ i=>
     simp only [List.set_cons_succ,List.countP_cons]
     have:=ih (by simpa using hi') (by simpa using hv)
     omega
theorem lH {L:Array Bool} (h:L.toList.countP (· == false)=0):∀i,i < L.size→L.getD i true=true:=by
 intro i hi;have h1:=List.countP_eq_zero.1 h L[i] (by simp);cases e:L[i] with
 | true=>simp [Array.getD,hi,e]
 | false=>rw [e] at h1;simp at h1
theorem Jh {cf:dX} (hcf:jE P cf) {ops:Array Oper} {ov:Ov} {s:cu} {t t' : T RV} {cs:List Bool} {es:List (RV×RV)} {m:Nat} {κ0:bE} {w0:World} {φ0:bP}
 (hq:iP ops=true) (hg:dF s.n ops=true) (hs:s.R=bg t) (hrun:xZ cf ops ov s.O ops.toList t [] []=some (t',cs,es)) (hc:∀c∈cs,c=true) (he:∀e∈es,jF e.1 e.2) :
 (∀(fuel:Nat) (L:Array Bool) (κ:bE) (φ:bP) (w:World) (a:Act),L.size=ops.size→L.toList.countP (· == false)=fuel→
   (∀(j:Nat) (o:Oper),ops[j]? = some o→L.getD j false=true→∀e∈o.after,Region.binds .any e=true→L.getD e.on false=true)→aA κ φ w { s with R:=bU ops s.R (bg t') L } a→
   Fr κ0 w0 κ w→nP m φ0 s.O φ s.O→
   wpAny P .any ops (fun e a' w'=>e = .normal∧∃κ' φ',aA κ' φ' w' { s with R:=bg t' } a'∧Fr κ0 w0 κ' w'∧nP m φ0 s.O φ' s.O) fuel L a w):=by
 have hnd:∀(i j:Nat) (p q:Oper) (d:Nat),ops.toList[i]? = some p→ops.toList[j]? = some q→p.dst=some d→q.dst=some d→i=j:=by
  intro i j p q d hi hj hp qN;rcases ((dh hq (j:=j) (o:=q) (by simpa using hj)).2 i p d (by simpa using hi) hp).1 with h | h
  ·exact h
  ·exact absurd qN h
 have hat:=Hu ops.toList t t' [] cs [] es hrun hnd;have hout:=(qo ops.toList t t' [] cs [] es hrun).2.2
 have full:∀(L:Array Bool),L.size=ops.size→(∀i,i < ops.size→L.getD i true=true)→bU ops s.R (bg t') L=bg t':=by
  intro L hL hall;funext d;unfold bU;split
  ·rfl
  ·rename_i hne;rw [hs,hout d (fun o ho hd=>hne ?_)];obtain ⟨i,hi⟩:=List.mem_iff_getElem?.1 ho;have hi' : ops[i]? = some o:=by simpa using hi
   have hlt:=(Array.getElem?_eq_some_iff.1 hi').1;have hlt2:i < L.size:=by omega
   have:=hall i hlt
   exact ⟨i,o,hi',hd,by simp [Array.getD,hlt2] at this ⊢;exact this⟩
 intro fuel;induction fuel with
 | zero=>
   intro L κ φ w a hL hcnt hcl F hR hK;have hall:=lH hcnt;rw [full L hL (fun i hi=>hall i (by omega))] at F;refine ⟨?_,rfl,κ,φ,F,hR,hK⟩;cases hr:Region.ready .any ops L with
   | nil=>rfl
   | cons i r=>
     obtain ⟨o,_,h1,h2,_⟩:=mem_ready (md:=.any) (ops:=ops) (L:=L) (i:=i) (by rw [hr];simp);rw [hall i (by omega)] at h2;cases h2
 | succ fuel ih=>
   intro L κ φ w a hL hcnt hcl F hR hK;refine ⟨fun hr=>?_,fun j hj=>?_⟩
   ·have hall:=ready_nil hL (fun j o ho=>(dh hq ho).1) hr;rw [full L hL hall] at F;exact ⟨rfl,κ,φ,F,hR,hK⟩
   ·obtain ⟨o,ho,hjn,hlj,iK⟩:=mem_ready hj;obtain ⟨R,v,c,e,k1,k2,k3,k4,k5,k6⟩:=hat j o (by simpa using ho);obtain ⟨s1,s2⟩:=dh hq ho
    have same:∀d,d∈looks o ops→bU ops s.R (bg t') L d=R d:=by
     intro d hd;by_cases hw:∃(i:Nat) (p:Oper),ops[i]? = some p∧p.dst=some d
     ·obtain ⟨i,p,hi,hp⟩:=hw;rcases (s2 i p d hi hp).2 hd with ⟨hij,ed,he1,he2,xY⟩ | ⟨hij,ed,he1,he2,xY⟩
      ·have OG:L.getD i false=true:=by rw [←he2];exact iK ed he1 xY
       unfold bU;rw [if_pos ⟨i,p,hi,hp,OG⟩];exact (k6 i p d hij (by simpa using hi) hp).symm
      ·have oZ:L.getD j false=false:=by
        have:j < L.size:=by omega
        simp [Array.getD,this] at hlj ⊢;exact hlj
       have only:∀(i' : Nat) (p' : Oper),ops[i']? = some p'→p'.dst=some d→i'=i:=fun i' p' h1 h2=>hnd i' i p' p d (by simpa using h1) (by simpa using hi) h2 hp;unfold bU
       rw [if_neg (fun ⟨i',p',h1,h2,h3⟩=>by
        have e:=only i' p' h1 h2;subst e;rw [h1] at hi;injection hi with hi;subst hi
        have:=hcl i' p' h1 h3 ed he1 xY
        rw [he2,oZ] at this;cases this),hs]
       exact (k5 d (fun i' p' h0 h1 h2=>by have:=only i' p' (by simpa using h1) h2;omega)).symm
     ·unfold bU;rw [if_neg (fun ⟨i,p,hi,hp,_⟩=>hw ⟨i,p,hi,hp⟩),hs];exact (k5 d (fun i p _ hp wI=>hw ⟨i,p,by simpa using hp,wI⟩)).symm
    have KT:kG cf ops ov (bU ops s.R (bg t') L) s.O o=some (v,c,e):=by
     rw [←k1]
     have h1:guardOf (bU ops s.R (bg t') L) ops o=guardOf R ops o:=by
      unfold guardOf;cases hgu:o.guard with
      | none=>rfl
      | some p=>
        obtain ⟨g,want⟩:=p;simp only;cases hog:ops[g]? with
        | none=>rfl
        | some gg=>
          simp only;cases hgd:gg.dst with
          | none=>rfl
          | some d=>
            simp only;rw [same d (by simp only [looks,List.mem_append];right;rw [hgu];simp only [hog,hgd];simp)]
     have h2:mK cf (bU ops s.R (bg t') L) s.O 0 o=mK cf R s.O 0 o:=nW fun x hx=>lG fun d hd=>by
      subst hd;refine same d ?_;simp only [looks,List.mem_append,List.mem_filterMap];left;exact ⟨.tmp d,by simpa using hx,rfl⟩
     unfold kG;rw [h1,h2]
    refine BJ hcf F KT (fun x hx=>hc x (k2 x hx)) (fun x hx=>he x (k3 x hx)) ho (dw hg) (fun a' w' κ' φ' g1 g2 g3=>?_)
    have hset:iX (bU ops s.R (bg t') L) o.dst v=bU ops s.R (bg t') (L.setIfInBounds j true):=by
     funext d
     have hget:∀i,(L.setIfInBounds j true).getD i false=if i=j then true else L.getD i false:=by
      intro i;simp only [Array.getD_eq_getD_getElem?,Array.getElem?_setIfInBounds];by_cases e:i=j
      ·subst e;have:i < L.size:=by omega
       simp [this]
      ·have:¬j=i:=fun h=>e h.symm
       simp [e,this]
     cases hd:o.dst with
     | none=>
       simp only [iX];unfold bU;congr 1;apply propext;constructor
       ·rintro ⟨i,p,h1,h2,h3⟩
        exact ⟨i,p,h1,h2,by rw [hget];split;rfl;exact h3⟩
       ·rintro ⟨i,p,h1,h2,h3⟩
        rw [hget] at h3;by_cases e:i=j
        ·subst e;rw [ho] at h1;injection h1 with h1;subst h1;rw [hd] at h2;cases h2
        ·rw [if_neg e] at h3;exact ⟨i,p,h1,h2,h3⟩
     | some d0=>
       simp only [iX,jh];by_cases e0:d=d0
       ·subst e0;rw [if_pos rfl];unfold bU;rw [if_pos ⟨j,o,ho,hd,by rw [hget];simp⟩,k4 d hd]
       ·rw [if_neg e0];unfold bU;congr 1;apply propext;constructor
        ·rintro ⟨i,p,h1,h2,h3⟩
         exact ⟨i,p,h1,h2,by rw [hget];split;rfl;exact h3⟩
        ·rintro ⟨i,p,h1,h2,h3⟩
         rw [hget] at h3;by_cases e:i=j
         ·subst e;rw [ho] at h1;injection h1 with h1;subst h1;rw [hd] at h2;injection h2 with h2;exact absurd h2.symm e0
         ·rw [if_neg e] at h3;exact ⟨i,p,h1,h2,h3⟩
    have g1' : aA κ' φ' w' { s with R:=bU ops s.R (bg t') (L.setIfInBounds j true) } a':=by rw [←hset];exact g1
    have hc2:=count_set (L:=L) (i:=j) (by omega) hlj
    have hget:∀i,(L.setIfInBounds j true).getD i false=if i=j then true else L.getD i false:=by
     intro i;simp only [Array.getD_eq_getD_getElem?,Array.getElem?_setIfInBounds];by_cases e:i=j
     ·subst e;have:i < L.size:=by omega
      simp [this]
     ·have:¬j=i:=fun h=>e h.symm
      simp [e,this]
    have hcl' : ∀(j' : Nat) (o' : Oper),ops[j']? = some o'→(L.setIfInBounds j true).getD j' false=true→∀e∈o'.after,Region.binds .any e=true→(L.setIfInBounds j true).getD e.on false=true:=by
     intro j' o' ho' hl' e he' hb';rw [hget] at hl' ⊢;split
     ·rfl
     ·by_cases ej:j'=j
      ·subst ej;rw [ho] at ho';injection ho' with ho';subst ho';exact iK e he' hb'
      ·rw [if_neg ej] at hl';exact hcl j' o' ho' hl' e he' hb'
    exact ih (L.setIfInBounds j true) κ' φ' w' a' (by simpa using hL) (by omega) hcl' g1' (hR.trans g2) (hK.trans (g3.m m))
end Go.Am
