/-
  Texts that the claim leans on: AmVg, Shelf, N1, K1, AmLaw, K0, Console, ConNum, ConVal, ConRead, ConLine, ConRef.
-/
import Derived.Test.YtjoefbioobdinaaGreatDoorProg
import Derived.Test.YtjoefbioobdinaaGreatDoorkg
import Derived.Shelf.Strings.Builder1
import Derived.Shelf.Strings.Builder2
import Derived.Shelf.Strings.Trim
import Derived.Shelf.Small.Utf8
import Derived.Shelf.Small.Bits
import Derived.Shelf.Small.Strs
import Derived.Shelf.Strings.BuilderF
import Derived.Shelf.Utf8.RuneCount
import Derived.Shelf.Strings.Builder2Cap
import Derived.Shelf.Strconv.Itoa0
import Derived.Shelf.Strconv.Itoa1
import Derived.Shelf.LaysM
import Derived.Shelf.Strconv.Itoa2
import Derived.Shelf.Strconv.Itoa3
import Derived.Shelf.Strconv.Itoa4
import Derived.Shelf.Strconv.ParseIntEmpty
import Derived.Shelf.Strconv.Clone
import Derived.Shelf.Strconv.SyntaxError
import Derived.Shelf.LaysC
import Derived.Shelf.Strconv.ToError
import Derived.Shelf.Strconv.Lower
import Derived.Shelf.Strconv.ParseUint10
import Derived.Shelf.Strconv.ParseUint10Empty
import Derived.Shelf.Strconv.ParseUint10Any
import Derived.Shelf.Strconv.ParseInt10
import Derived.Shelf.Strconv.RangeError
import Derived.Shelf.Strconv.ToErrorRange
import Derived.Shelf.Strconv.ParseUintEmpty
import Derived.Shelf.Strconv.ParseUint10b64
import Derived.Shelf.Strconv.ParseUint10b32
import Derived.Shelf.Strconv.ParseUint10b16
import Derived.Shelf.Strconv.ParseUint10b8
import Derived.Shelf.Strconv.ParseUint10At
import Derived.Shelf.Strconv.ParseInt10At64
import Derived.Shelf.Strconv.ParseInt10At32
import Derived.Shelf.Strconv.ParseInt10At16
import Derived.Shelf.Strconv.ParseInt10At8
import Derived.Shelf.Strconv.ParseInt10All
import Derived.Shelf.Strconv.ParseIntPublic10
import Derived.Shelf.Strconv.ErrVarParseInt
import Derived.Shelf.Strings.Search1
import Derived.Shelf.Strings.Search2
import Derived.Shelf.Strings.Search3
import Derived.Shelf.Strings.Cut
import Derived.Shelf.Strings.Count
import Derived.Shelf.Strings.Shaped
import Derived.Shelf.Strings.Prefix
import Derived.Shelf.Strings.Split
import Derived.Shelf.Strings.Fields
import Derived.Shelf.Strings.Replace
import Derived.Shelf.Strings.SplitShaped
import Derived.Shelf.Unicode.Latin
import Derived.Shelf.Unicode.Decode
import Derived.Shelf.Strings.Runes
import Derived.Shelf.Strings.RuneCount
import Derived.Shelf.Strings.AsciiSet
import Derived.Shelf.Bits.Mul64
import Derived.Shelf.Strings.Repeat
import Derived.Shelf.Unicode.DecodeSlow
import Derived.Shelf.Unicode.DecodeAny
import Derived.Shelf.Unicode.Is16White
import Derived.Shelf.Unicode.IsSpaceAny
import Derived.Shelf.Unicode.DecodeLast
import Derived.Shelf.Unicode.Is16Any
import Derived.Shelf.Unicode.Is32Any
import Derived.Shelf.Unicode.ExclAny
import Derived.Ground.Names2Prog
import Derived.Shelf.Slices.Clone
import Derived.Shelf.Slices.SearchI
import Derived.Ground.SlgnProg
import Derived.Shelf.SlicesE.Clone
import Derived.Shelf.Strings.SlTrimAscii
import Derived.Lib.AppendIntMem
import Derived.WideKeyArgs
import Derived.ChangeShapes
import Derived.ChangeArms
import Derived.RowKit
import Derived.ProofKit
import Derived.OpenShut
import Derived.JoinedCond
import GoSem.ClaimJoined
import Derived.Lib.ParseIntBTie
import Derived.Lib.ItoaNum
import Derived.Lib.SlTrimSet
import Derived.Lib.Strings
set_option linter.unusedSimpArgs false
set_option linter.unusedVariables false
namespace Go.Am
set_option linter.unusedSectionVars false
variable {P:Program} [Gl]
section
variable [Df]
def jD (P:Program) (call:fq):Prop:=∀g args O nx vY a,call g args O nx vY=some a→∃r O' nx',vY r O' nx'=some a∧GC P g args O.fn r O'.fn
theorem zW {call:fq} (h:jD P call):lY P (BU call):=by
 intro g args O nx r O' nx' hc;obtain ⟨r1,O1,y8,h1,h2⟩:=h _ _ _ _ _ _ hc;simp only [Option.some.injEq,Prod.mk.injEq] at h1;obtain ⟨rfl,rfl,rfl⟩:=h1;exact h2
open Classical in
noncomputable def sS (g:Nat) (args:List RV) (O:OT) (nx:Nat) (r:RV) (O' : OT) (nx' : Nat):lI:=fun g1 a1 O1 n1=>
 if g1=g∧a1=args∧O1=O∧n1=nx then some (r,O',nx') else none
theorem FD {g:Nat} {args:List RV} {O:OT} {nx:Nat} {r:RV} {O' : OT} {nx' : Nat} (h:GC P g args O.fn r O'.fn):lY P (sS g args O nx r O' nx'):=by
 intro g1 a1 O1 n1 r1 O1' n1' hc;unfold sS at hc;split at hc
 ·rename_i hh;obtain ⟨rfl,rfl,rfl,rfl⟩:=hh;simp only [Option.some.injEq,Prod.mk.injEq] at hc;obtain ⟨rfl,rfl,rfl⟩:=hc;exact h
 ·cases hc
theorem FE (g:Nat) (args:List RV) (O:OT) (nx:Nat) (r:RV) (O' : OT) (nx' : Nat):sS g args O nx r O' nx' g args O nx=some (r,O',nx'):=by
 unfold sS;rw [if_pos ⟨rfl,rfl,rfl,rfl⟩]
def xS:lI:=fun _ _ _ _=>none
theorem p9:lY P xS:=fun _ _ _ _ _ _ _ h=>by cases h
def xU (P:Program) (cf:dK) (has:Nat→Bool) (ops:Array Oper) (o:Oper) (R:RT) (O:OT) (nx:Nat) (k:VK) (a:RV×OT×Nat):Prop:=
 ∃vc R' O' nx',lY P vc∧GU cf has vc ops R O nx o=some (R',O',nx')∧k R' O' nx'=some a
theorem He {cf:dK} {has:Nat→Bool} (call:fq) {ops:Array Oper} {o:Oper} {x:Operand} {R:RT} {O:OT} {nx:Nat} {k:VK} {a} (hg:guardOf R.fn ops o=some true) (ho:o.op = .move x∨o.op = .assign x)
 (h:GZ x cf has call o R O nx k=some a):xU P cf has ops o R O nx k a:=by
 refine ⟨xS,jm R o.dst (aH R.fn x),O,nx,p9,?_,?_⟩
 ·unfold GU;rw [hg];rcases ho with ho | ho<;>simp only [ho]
 ·unfold GZ at h;rw [p8,FB] at h;exact h
def zX:Op→Bool
 | .move _=>false
 | .assign _=>false
 | .call c=>match c.callee with
   | .value _=>false
   | _=>true
 | _=>true
theorem Ow {cf:dK} {has:Nat→Bool} {vc:lI} {ops:Array Oper} {o:Oper} {R:RT} {O:OT} {nx:Nat} (hg:guardOf R.fn ops o=some true) (ho:zX o.op=true) :
 GU cf has vc ops R O nx o=xQ R O nx o.dst (lU cf R.fn O.fn nx o):=by
 unfold GU;rw [hg];simp only;cases hop:o.op<;>rw [hop] at ho<;>first | rfl | (simp [zX] at ho;done) | skip
 rename_i c;simp only [zX] at ho;cases hc:c.callee<;>rw [hc] at ho<;>first | (simp at ho;done) | (simp only [hc])
theorem FH {cf:dK} {has:Nat→Bool} (call:fq) {ops:Array Oper} {o:Oper} {R:RT} {O:OT} {nx:Nat} {k:VK} {a} (hg:guardOf R.fn ops o=some true) (ho:zX o.op=true)
 (h:fK cf has call o R O nx k=some a):xU P cf has ops o R O nx k a:=by
 obtain ⟨R',O',nx',h1,h2⟩:=zU h;exact ⟨xS,R',O',nx',p9,by rw [Ow hg ho];exact h1,h2⟩
theorem go_ok {cf:dK} {has:Nat→Bool} {call:fq} (hs:jD P call) {ops:Array Oper} {o:Oper} {c:Call} {f:Operand} {g:Nat} {first caps:List RV} {R:RT} {O:OT} {nx:Nat} {k:VK} {a} (hg:guardOf R.fn ops o=some true)
 (ho:o.op = .call c) (hc:c.callee = .value f) (hf:aH R.fn f = .fM (.func g) first caps)
 (h:V9 cf has call g o.dst (first++c.args.toList.map (aH R.fn)++caps) R O nx k=some a):xU P cf has ops o R O nx k a:=by
 unfold V9 at h
 have hv:∀vc,GU cf has vc ops R O nx o=bif cf.dP g then
  match (bif has g then gJ cf.K (cf.cK g) O.fn nx g (first++c.args.toList.map (aH R.fn)++caps) else none) with
  | some res=>xQ R O nx o.dst (some (res,false))
  | none=>match vc g (first++c.args.toList.map (aH R.fn)++caps) O nx with
    | some (v,O',nx')=>some (jm R o.dst v,O',nx')
    | none=>none
  else none:=by
  intro vc;unfold GU;rw [hg];simp only [ho,hc,hf];rfl
 cases hk:cf.dP g with
 | false=>rw [hk] at h;cases h
 | true=>
   rw [hk] at h;simp only [hk,cond_true] at hv;cases hx:(bif has g then gJ cf.K (cf.cK g) O.fn nx g (first++c.args.toList.map (aH R.fn)++caps) else none) with
   | some res=>
     rw [hx] at h;simp only [hx] at hv;obtain ⟨R',O',nx',h1,h2⟩:=zU h;exact ⟨xS,R',O',nx',p9,by rw [hv];exact h1,h2⟩
   | none=>
     rw [hx] at h;simp only [hx] at hv;obtain ⟨r,O',nx',h1,h2⟩:=hs _ _ _ _ _ _ h;exact ⟨sS g (first++c.args.toList.map (aH R.fn)++caps) O nx r O' nx',jm R o.dst r,O',nx',FD h2,by rw [hv,FE],by rw [←p8];exact h1⟩
theorem Hf {cf:dK} {has:Nat→Bool} {call:fq} (hs:jD P call) {ops:Array Oper} {o:Oper} {R:RT} {O:OT} {nx:Nat} {k:VK} {a} (hg:guardOf R.fn ops o=some true)
 (h:fBody o.op cf has call o R O nx k=some a):xU P cf has ops o R O nx k a:=by
 generalize hop:o.op=op at h;cases op with
 | move x=>exact He call hg (.inl hop) h
 | assign x=>exact He call hg (.inr hop) h
 | call c=>
   have h:BS c cf has call o R O nx k=some a:=h;unfold BS at h;cases hc:c.callee with
   | invoke x y=>rw [hc] at h;exact FH call hg (by rw [hop];simp [zX,hc]) h
   | builtin b=>rw [hc] at h;exact FH call hg (by rw [hop];simp [zX,hc]) h
   | value f=>
     rw [hc] at h;cases f with
     | const v=>cases h
     | global v=>cases h
     | func g=>
       have h:V9 cf has call g o.dst (zV c.args.toList R) R O nx k=some a:=h;rw [xR] at h;exact go_ok (first:=[]) (caps:=[]) hs hg hop hc rfl (by simpa using h)
     | tmp t=>
       have h:BR cf has call o.dst (zV c.args.toList) (R.fn t) R O nx k=some a:=h;generalize hv:R.fn t=v at h;unfold BR at h;split at h
       ·rename_i g first caps;rw [xR] at h;exact go_ok hs hg hop hc hv h
       ·cases h
 | _=>exact FH call hg (by rw [hop];rfl) h
theorem KV {cf:dK} {has:Nat→Bool} {call:fq} (hs:jD P call) {ops:Array Oper} {o:Oper} {R:RT} {O:OT} {nx:Nat} {k:VK} {a}
 (h:Rh cf has call ops o R O nx k=some a):xU P cf has ops o R O nx k a:=by
 unfold Rh at h;cases hg:o.guard with
 | none=>
   rw [hg] at h
   have:guardOf R.fn ops o=some true:=by unfold guardOf;rw [hg]
   exact Hf hs this h
 | some p=>
   rw [hg] at h;simp only at h;cases hb:guardOf R.fn ops o with
   | none=>rw [hb] at h;cases h
   | some b=>
     rw [hb] at h;cases b with
     | true=>exact Hf hs hb h
     | false=>
       refine ⟨xS,jm R o.dst .und,O,nx,p9,?_,?_⟩
       ·unfold GU;rw [hb]
       ·rw [←p8];exact h
theorem Hg {cf:dK} (hcf:jh P cf) {has:Nat→Bool} {call:fq} (hs:jD P call) {ops:Array Oper} {n:Nat} (hn2:n≤512) (hg:cO n ops=true):∀(l:List Oper) (k:Nat) {R:RT} {O:OT} {nx:Nat} {kk:VK} {a},
 FC cf has call ops l R O nx kk=some a→(∀i o,l[i]? = some o→ops[k+i]? = some o)→
 ∃R' O' nx',kk R' O' nx'=some a∧∀{κ:bn} {φ:bG} {w:World} {act:Act} {Q:Exit→Act→World→Prop},av κ φ w (lZ n R O) act→
  (∀a' w' κ' φ',av κ' φ' w' (lZ n R' O') a'→Fr κ w κ' w'→Kp φ O.fn φ' O'.fn→Q .normal a' w')→wpOps P ops Q (List.range' k l.length) act w
 | [],k,R,O,nx,kk,a,h,hl=>⟨R,O,nx,h,fun F hk=>hk _ _ _ _ F (Fr.refl _ _) (Kp.refl _ _)⟩
 | o::r,k,R,O,nx,kk,a,h,hl=>by
   have h:Rh cf has call ops o R O nx (fun R O nx=>FC cf has call ops r R O nx kk)=some a:=h;obtain ⟨vc,R1,O1,y8,hv,h1,h2⟩:=KV hs h;obtain ⟨R2,O2,YR,h3,h4⟩:=Hg hcf hs hn2 hg r (k+1) h2 (fun i o' hi=>by have:=hl (i+1) o' (by simpa using hi);rw [←this];congr 1;omega);refine ⟨R2,O2,YR,h3,fun F hk=>?_⟩;have hk0:ops[k]? = some o:=by simpa using hl 0 o rfl
   simp only [List.length_cons,List.range'_succ];rw [wpOps_cons];refine BN hcf hv F h1 hk0 (bV hg) hn2 (fun a' w' κ' φ' g1 g2 g3=>?_);exact h4 g1 (fun a2 w2 κ2 φ2 k1 k2 k3=>hk a2 w2 κ2 φ2 k1 (g2.trans k2) (g3.trans k3))
noncomputable def dst (n:Nat) (D:List (Nat×List RV)) (R:RT) (O:OT):bP:={ n:=n,R:=R.fn,O:=O.fn,df:=D }
noncomputable def Wd (k:VK):List (Nat×List RV)→VK:=fun D=>List.rec (motive:=fun _=>VK) k (fun _ _ _ _ _ _=>none) D
section
variable (P:Program) (n m:Nat) (fin:List (Nat×List RV)→VK)
def Ends (k:List It) (R:RT) (O:OT) (a:RV×OT×Nat):Prop:=∃D R' O' nx',fin D R' O' nx'=some a∧WK P m k (lZ n R O) (fun s=>s=dst n D R' O')
def Good (k:List It) (kk:VK):Prop:=∀R O nx a,kk R O nx=some a→Ends P n m fin k R O a
def Qr (k:List It) (e:List (Nat×VK)):Prop:=∀id R O nx a,KT id e R O nx=some a→∃k',kL id k=some k'∧Ends P n m fin k' R O a
end
theorem KW {r:Option Vr} {k:VK} {a} (h:stK r k=some a):∃R O nx,r=some (R,O,nx)∧k R O nx=some a:=by
 cases r with
 | none=>cases h
 | some p=>
   obtain ⟨R,O,nx⟩:=p;refine ⟨R,O,nx,rfl,?_⟩;have h:BQ nx (k R O)=some a:=h;rw [zT] at h;exact h
theorem Ends.by {n m:Nat} {fin:List (Nat×List RV)→VK} {k k' : List It} {R R' : RT} {O O' : OT} {a} (h:Ends P n m fin k' R' O' a) (f:∀Q:bP→Prop,WK P m k' (lZ n R' O') Q→WK P m k (lZ n R O) Q):Ends P n m fin k R O a:=by
 obtain ⟨D,R1,O1,y8,h1,h2⟩:=h;exact ⟨D,R1,O1,y8,h1,f _ h2⟩
theorem zY {cf:dK} {has:Nat→Bool} {call:fq} (hs:jD P call) {ops:Array Oper}:∀(l:List Oper) (k:Nat) {R:RT} {O:OT} {nx:Nat} {kk:VK} {a},
 DU cf has call ops l R O nx kk=some a→∃Rs Os ns,BP P cf has ops l k Rs Os ns∧Rs k=R∧Os k=O∧ns k=nx∧kk (Rs (k+l.length)) (Os (k+l.length)) (ns (k+l.length))=some a
 | [],k,R,O,nx,kk,a,h=>⟨fun _=>R,fun _=>O,fun _=>nx,⟨fun j o hj=>by simp at hj⟩,rfl,rfl,rfl,h⟩
 | o::r,k,R,O,nx,kk,a,h=>by
   have glue:∀(R1:RT) (O1:OT) (y8:Nat),DU cf has call ops r R1 O1 y8 kk=some a→
    ((fA o=true∧O1=O∧∃v c,jU cf ops [] R.fn O.fn o=some (v,c,[])∧(∀x∈c,x=true)∧R1=jm R o.dst v)∨
      (fA o=false∧∃vc,lY P vc∧GU cf has vc ops R O nx o=some (R1,O1,y8)))→
    ∃Rs Os ns,BP P cf has ops (o::r) k Rs Os ns∧Rs k=R∧Os k=O∧ns k=nx∧kk (Rs (k+(o::r).length)) (Os (k+(o::r).length)) (ns (k+(o::r).length))=some a:=by
    intro R1 O1 y8 h1 h2;obtain ⟨Rs,Os,ns,g1,g2,g3,g4,g5⟩:=zY hs r (k+1) h1;refine ⟨fun i=>if i≤k then R else Rs i,fun i=>if i≤k then O else Os i,fun i=>if i≤k then nx else ns i,⟨fun j o' hj=>?_⟩,by simp,by simp,by simp,?_⟩
    ·cases j with
     | zero=>
       simp at hj;subst hj;simp only [Nat.add_zero,Nat.le_refl,if_true,show ¬k+1≤k by omega,if_false,g2,g3,g4];exact h2
     | succ j=>
       have:=g1.at_ j o' (by simpa using hj)
       simp only [show ¬k+(j+1)≤k by omega,show ¬k+(j+1)+1≤k by omega,if_false];rw [show k+(j+1)=k+1+j by omega];exact this
    ·simp only [List.length_cons,show ¬k+(r.length+1)≤k by omega,if_false];rw [show k+(r.length+1)=k+1+r.length by omega];exact g5
   have h:Bool.rec (motive:=fun _=>mU) (Rh cf has call ops o R O nx (fun R O nx=>DU cf has call ops r R O nx kk)) (qK (jU cf ops [] R.fn O.fn o) o.dst R (fun R=>DU cf has call ops r R O nx kk)) (fA o)=some a:=h;cases hq:fA o with
   | false=>
     rw [hq] at h;obtain ⟨vc,R1,O1,y8,hv,h1,h2⟩:=KV hs h;exact glue R1 O1 y8 h2 (.inr ⟨hq,vc,hv,h1⟩)
   | true=>
     rw [hq] at h;simp only at h;cases Kr:jU cf ops [] R.fn O.fn o with
     | none=>rw [Kr] at h;cases h
     | some p=>
       obtain ⟨v,c,e⟩:=p;have he:=GX Kr;subst he;rw [Kr] at h;unfold qK at h;simp only at h;cases hc:allT c with
       | false=>rw [hc] at h;cases h
       | true=>
         rw [hc] at h;simp only [p8] at h;exact glue _ _ _ h (.inl ⟨hq,rfl,v,c,Kr,kH hc,rfl⟩)
theorem DW {cf:dK} (hcf:jh P cf) (eY:P.follows .mixedOrders=true) {has:Nat→Bool} {call:fq} (hs:jD P call) {n m id:Nat} (hn:n≤512) {fin:List (Nat×List RV)→VK} {ops:Array Oper} {draw:Bool} {k:List It} {kk:VK}
 (hk:Good P n m fin k kk):Good P n m fin (.code (.region id ops draw)::k) (fun R O nx=>BX cf has call n ops draw R O nx kk):=by
 intro R O nx a h;unfold BX at h;cases draw with
 | true=>
   simp only at h;cases hl:(cO n ops&&iB ops&&BO ops) with
   | false=>
     rw [hl] at h;obtain ⟨R',O',nx',h1,h2⟩:=KW h;exact (hk R' O' nx' a h2).by fun Q W=>Fy hcf eY (zW hs) hn h1 W
   | true=>
     rw [hl] at h;simp only [Bool.and_eq_true] at hl;obtain ⟨Rs,Os,ns,h1,rfl,rfl,rfl,h5⟩:=zY hs ops.toList 0 h;have hlen:0+ops.toList.length=ops.size:=by simp
     rw [hlen] at h5;refine (hk _ _ _ a h5).by fun Q W=>WK.sF (s':=lZ n (Rs ops.size) (Os ops.size)) eY (fun κ φ w a F=>?_) W
     refine KR hcf hn hl.1.2 hl.1.1 hl.2 h1 ops.size (Array.replicate ops.size false) 0 κ φ w a (by simp) (by simp [List.countP_replicate]) (fun j o hj hl=>by
      exfalso;by_cases hi:j < ops.size<;>simp [Array.getD,hi] at hl) (fun p o hp hq=>by
      have hps:=(Array.getElem?_eq_some_iff.1 hp).1;simp [Array.getD,hps]) (by omega) ?_ (Fr.refl _ _) (mZ.refl _ _ _)
     have:bK ops (Rs 0).fn (Rs ops.size).fn (Array.replicate ops.size false)=(Rs 0).fn:=by
      funext d;unfold bK;rw [if_neg]
      rintro ⟨i,o,_,_,h3⟩
      by_cases hi:i < ops.size<;>simp [Array.getD,hi] at h3
     rw [this];exact F
 | false=>
   simp only at h;cases hg:cO n ops with
   | false=>rw [hg] at h;cases h
   | true=>
     rw [hg] at h;obtain ⟨R',O',nx',h1,h2⟩:=Hg hcf hs hn hg ops.toList 0 h (fun i o hi=>by simpa using hi);refine (hk R' O' nx' a h1).by fun Q W=>WK.region (s':=lZ n R' O') (fun κ φ w a F=>?_) W
     have:=h2 (Q:=fun e a' w'=>e = .normal∧∃κ' φ',av κ' φ' w' (lZ n R' O') a'∧Fr κ w κ' w'∧mZ m φ (lZ n R O).O φ' (lZ n R' O').O) F
      (fun a' w' κ' φ' g1 g2 g3=>⟨rfl,κ',φ',g1,g2,g3.m m⟩)
     rw [List.range_eq_range'];simpa using this
end
end Go.Am
namespace Go.Proofs
open Go.Shelf
def Tryz.lays160_ren:Go.Shelf.Ren:=⟨fun | 160=>21 | 232=>40 | 231=>39 | 227=>41 | 234=>43 | 233=>42 | 236=>45 | 235=>44 | 228=>81 | 271=>84 | 151=>83 | 197=>82 | 120=>142 | 152=>141 | 260=>140 | 137=>136 | 119=>203 | 224=>132 | 225=>131 | 217=>130 | 266=>199 | n=>n,fun | 9=>9 | 4=>4 | 3=>3 | 5=>5 | 117=>80 | 116=>79 | 0=>0 | 124=>83 | 21=>21 | 105=>127 | 46=>204 | 119=>297 | 139=>300 | 138=>299 | n=>n,fun | 3=>1 | 4=>2 | n=>n⟩
theorem Tryz.lays160:Go.Proofs.Lays.n160 Tryz.prog Tryz.lays160_ren:={
 mixed:=by kernel_rfl
 f119:=Tryz.func203.trans (congrArg some (by kernel_rfl))
 f120:=Tryz.func142.trans (congrArg some (by kernel_rfl))
 f137:=Tryz.func136.trans (congrArg some (by kernel_rfl))
 f151:=Tryz.func83.trans (congrArg some (by kernel_rfl))
 f152:=Tryz.func141.trans (congrArg some (by kernel_rfl))
 f160:=Tryz.func21.trans (congrArg some (by kernel_rfl))
 f197:=Tryz.func82.trans (congrArg some (by kernel_rfl))
 f217:=Tryz.func130.trans (congrArg some (by kernel_rfl))
 f224:=Tryz.func132.trans (congrArg some (by kernel_rfl))
 f225:=Tryz.func131.trans (congrArg some (by kernel_rfl))
 f227:=Tryz.func41.trans (congrArg some (by kernel_rfl))
 f228:=Tryz.func81.trans (congrArg some (by kernel_rfl))
 f231:=Tryz.func39.trans (congrArg some (by kernel_rfl))
 f232:=Tryz.func40.trans (congrArg some (by kernel_rfl))
 f233:=Tryz.func42.trans (congrArg some (by kernel_rfl))
 f234:=Tryz.func43.trans (congrArg some (by kernel_rfl))
 f235:=Tryz.func44.trans (congrArg some (by kernel_rfl))
 f236:=Tryz.func45.trans (congrArg some (by kernel_rfl))
 f260:=Tryz.func140.trans (congrArg some (by kernel_rfl))
 f266:=Tryz.func199.trans (congrArg some (by kernel_rfl))
 f271:=Tryz.func84.trans (congrArg some (by kernel_rfl))
 t0:=Tryz.underlying0
 a0:=Tryz.isAgg0
 z0:=Tryz.sizeOf0
 v0:=Tryz.zeroValue0
 t3:=Tryz.underlying3
 a3:=Tryz.isAgg3
 z3:=Tryz.sizeOf3
 v3:=Tryz.zeroValue3
 t4:=Tryz.underlying4
 a4:=Tryz.isAgg4
 z4:=Tryz.sizeOf4
 v4:=Tryz.zeroValue4
 t5:=Tryz.underlying5
 a5:=Tryz.isAgg5
 z5:=Tryz.sizeOf5
 v5:=Tryz.zeroValue5
 t9:=Tryz.underlying9
 a9:=Tryz.isAgg9
 z9:=Tryz.sizeOf9
 v9:=Tryz.zeroValue9
 t21:=Tryz.underlying21
 a21:=Tryz.isAgg21
 z21:=Tryz.sizeOf21
 v21:=Tryz.zeroValue21
 t46:=Tryz.underlying204
 a46:=Tryz.isAgg204
 z46:=Tryz.sizeOf204
 v46:=Tryz.zeroValue204
 t105:=Tryz.underlying127
 a105:=Tryz.isAgg127
 z105:=Tryz.sizeOf127
 v105:=Tryz.zeroValue127
 t116:=Tryz.underlying79
 a116:=Tryz.isAgg79
 z116:=Tryz.sizeOf79
 t117:=Tryz.underlying80
 a117:=Tryz.isAgg80
 z117:=Tryz.sizeOf80
 v117:=Tryz.zeroValue80
 t119:=Tryz.underlying297
 a119:=Tryz.isAgg297
 z119:=Tryz.sizeOf297
 t124:=Tryz.underlying83
 a124:=Tryz.isAgg83
 z124:=Tryz.sizeOf83
 v124:=Tryz.zeroValue83
 t138:=Tryz.underlying299
 a138:=Tryz.isAgg299
 z138:=Tryz.sizeOf299
 v138:=Tryz.zeroValue299
 t139:=Tryz.underlying300
 a139:=Tryz.isAgg300
 z139:=Tryz.sizeOf300
 v139:=Tryz.zeroValue300
 g3:=by kernel_rfl
 g4:=by kernel_rfl }
def Tryz.lays137_ren:Go.Shelf.Ren:=⟨fun | 137=>136 | 217=>130 | 266=>199 | n=>n,fun | 9=>9 | 5=>5 | 3=>3 | n=>n,fun | n=>n⟩
theorem Tryz.lays137:Go.Proofs.Lays.n137 Tryz.prog Tryz.lays137_ren:={
 mixed:=by kernel_rfl
 f137:=Tryz.func136.trans (congrArg some (by kernel_rfl))
 f217:=Tryz.func130.trans (congrArg some (by kernel_rfl))
 f266:=Tryz.func199.trans (congrArg some (by kernel_rfl))
 t3:=Tryz.underlying3
 a3:=Tryz.isAgg3
 z3:=Tryz.sizeOf3
 v3:=Tryz.zeroValue3
 t5:=Tryz.underlying5
 a5:=Tryz.isAgg5
 z5:=Tryz.sizeOf5
 v5:=Tryz.zeroValue5
 t9:=Tryz.underlying9
 a9:=Tryz.isAgg9
 z9:=Tryz.sizeOf9
 v9:=Tryz.zeroValue9 }
open Go.RowKit in
theorem Tryz.strings_IndexByte (s:ByteArray) (c:Int) (w:World) :
 Calls Tryz.prog 136 #[.string s,.int .u8 c] w fun e w'=>e = .returned (.int .i64 (Lib.indexByte s.data.toList c.toNat.toUInt8))∧w'=w:=Any.strings_IndexByte Tryz.lays137 s c w
def Tryz.laysM246_ren:Go.Shelf.Ren:=⟨fun | 246=>197 | 283=>147 | 284=>148 | 285=>149 | 286=>150 | 129=>215 | 317=>214 | 318=>216 | 319=>217 | 320=>218 | 337=>313 | 338=>314 | n=>n,fun | 2=>2 | 3=>3 | 9=>9 | 4=>4 | 171=>234 | 0=>0 | 53=>97 | 37=>130 | 5=>5 | 173=>237 | 212=>322 | 51=>293 | 20=>20 | 213=>323 | 46=>204 | 232=>508 | 233=>243 | n=>n,fun | 17=>3 | 18=>6 | 19=>7 | n=>n⟩
def Tryz.laysM243_ren:Go.Shelf.Ren:=⟨fun | 243=>143 | 246=>197 | 283=>147 | 284=>148 | 285=>149 | 286=>150 | 129=>215 | 317=>214 | 318=>216 | 319=>217 | 320=>218 | 337=>313 | 338=>314 | n=>n,fun | 3=>3 | 9=>9 | 2=>2 | 4=>4 | 171=>234 | 0=>0 | 53=>97 | 37=>130 | 5=>5 | 173=>237 | 212=>322 | 51=>293 | 20=>20 | 213=>323 | 46=>204 | 232=>508 | 233=>243 | n=>n,fun | 17=>3 | 18=>6 | 19=>7 | n=>n⟩
def Tryz.laysM171_ren:Go.Shelf.Ren:=⟨fun | 171=>88 | 243=>143 | 246=>197 | 283=>147 | 284=>148 | 285=>149 | 286=>150 | 129=>215 | 317=>214 | 318=>216 | 319=>217 | 320=>218 | 337=>313 | 338=>314 | n=>n,fun | 3=>3 | 9=>9 | 2=>2 | 4=>4 | 171=>234 | 0=>0 | 53=>97 | 37=>130 | 5=>5 | 173=>237 | 212=>322 | 51=>293 | 20=>20 | 213=>323 | 46=>204 | 232=>508 | 233=>243 | n=>n,fun | 17=>3 | 18=>6 | 19=>7 | n=>n⟩
theorem Tryz.laysM171:Go.Proofs.LaysM.n171 Tryz.prog Tryz.laysM171_ren:={
 mixed:=by kernel_rfl
 f129:=Tryz.func215.trans (congrArg some (by kernel_rfl))
 f171:=Tryz.func88.trans (congrArg some (by kernel_rfl))
 f243:=Tryz.func143.trans (congrArg some (by kernel_rfl))
 f246:=Tryz.func197.trans (congrArg some (by kernel_rfl))
 f283:=Tryz.func147.trans (congrArg some (by kernel_rfl))
 f284:=Tryz.func148.trans (congrArg some (by kernel_rfl))
 f285:=Tryz.func149.trans (congrArg some (by kernel_rfl))
 f286:=Tryz.func150.trans (congrArg some (by kernel_rfl))
 f317:=Tryz.func214.trans (congrArg some (by kernel_rfl))
 f318:=Tryz.func216.trans (congrArg some (by kernel_rfl))
 f319:=Tryz.func217.trans (congrArg some (by kernel_rfl))
 f320:=Tryz.func218.trans (congrArg some (by kernel_rfl))
 f337:=Tryz.func313.trans (congrArg some (by kernel_rfl))
 f338:=Tryz.func314.trans (congrArg some (by kernel_rfl))
 t0:=Tryz.underlying0
 a0:=Tryz.isAgg0
 z0:=Tryz.sizeOf0
 v0:=Tryz.zeroValue0
 t2:=Tryz.underlying2
 a2:=Tryz.isAgg2
 z2:=Tryz.sizeOf2
 v2:=Tryz.zeroValue2
 t3:=Tryz.underlying3
 a3:=Tryz.isAgg3
 z3:=Tryz.sizeOf3
 v3:=Tryz.zeroValue3
 t4:=Tryz.underlying4
 a4:=Tryz.isAgg4
 z4:=Tryz.sizeOf4
 v4:=Tryz.zeroValue4
 t5:=Tryz.underlying5
 a5:=Tryz.isAgg5
 z5:=Tryz.sizeOf5
 v5:=Tryz.zeroValue5
 t9:=Tryz.underlying9
 a9:=Tryz.isAgg9
 z9:=Tryz.sizeOf9
 v9:=Tryz.zeroValue9
 t20:=Tryz.underlying20
 a20:=Tryz.isAgg20
 z20:=Tryz.sizeOf20
 v20:=Tryz.zeroValue20
 t37:=Tryz.underlying130
 a37:=Tryz.isAgg130
 z37:=Tryz.sizeOf130
 v37:=Tryz.zeroValue130
 t46:=Tryz.underlying204
 a46:=Tryz.isAgg204
 z46:=Tryz.sizeOf204
 v46:=Tryz.zeroValue204
 t51:=Tryz.underlying293
 a51:=Tryz.isAgg293
 z51:=Tryz.sizeOf293
 v51:=Tryz.zeroValue293
 t53:=Tryz.underlying97
 a53:=Tryz.isAgg97
 z53:=Tryz.sizeOf97
 v53:=Tryz.zeroValue97
 t171:=Tryz.underlying234
 a171:=Tryz.isAgg234
 z171:=Tryz.sizeOf234
 v171:=Tryz.zeroValue234
 t173:=Tryz.underlying237
 a173:=Tryz.isAgg237
 z173:=Tryz.sizeOf237
 v173:=Tryz.zeroValue237
 t212:=Tryz.underlying322
 a212:=Tryz.isAgg322
 z212:=Tryz.sizeOf322
 v212:=Tryz.zeroValue322
 t213:=Tryz.underlying323
 a213:=Tryz.isAgg323
 z213:=Tryz.sizeOf323
 t232:=Tryz.underlying508
 a232:=Tryz.isAgg508
 z232:=Tryz.sizeOf508
 v232:=Tryz.zeroValue508
 t233:=Tryz.underlying243
 a233:=Tryz.isAgg243
 z233:=Tryz.sizeOf243
 v233:=Tryz.zeroValue243
 g17:=by kernel_rfl
 g18:=by kernel_rfl
 g19:=by kernel_rfl
 i0:=by kernel_rfl
 i2:=by kernel_rfl
 i3:=by kernel_rfl
 i4:=by kernel_rfl
 i5:=by kernel_rfl
 i9:=by kernel_rfl
 i20:=by kernel_rfl
 i37:=by kernel_rfl
 i46:=by kernel_rfl
 i51:=by kernel_rfl
 i53:=by kernel_rfl
 i171:=by kernel_rfl
 i173:=by kernel_rfl
 i212:=by kernel_rfl
 i232:=by kernel_rfl
 i233:=by kernel_rfl
 m17:=by kernel_rfl
 m18:=by kernel_rfl
 m19:=by kernel_rfl }
open Go.RowKit Go.Sort Go.Lib in
theorem Tryz.strconv_Itoa (n:Int) (h0:-9223372036854775808≤n) (h1:n≤9223372036854775807) (w:World) (htab:Lib.TabIs Tryz.prog w "internal/strconv.uint64pow10" .u64 Lib.pow10Tab) :
 Calls Tryz.prog 88 #[.int .i64 n] w fun e w'=>e = .returned (.string ⟨(Lib.itoa n).toArray⟩)∧∃k os,w'=grow (w.drewN k) os:=Any.strconv_Itoa Tryz.laysM171 n h0 h1 w htab
def Tryz.laysM173_ren:Go.Shelf.Ren:=⟨fun | 173=>128 | 246=>197 | 283=>147 | 284=>148 | 285=>149 | 286=>150 | 129=>215 | 317=>214 | 318=>216 | 319=>217 | 320=>218 | 337=>313 | 338=>314 | n=>n,fun | 2=>2 | 3=>3 | 9=>9 | 4=>4 | 171=>234 | 0=>0 | 53=>97 | 37=>130 | 5=>5 | 173=>237 | 212=>322 | 51=>293 | 20=>20 | 213=>323 | 46=>204 | 232=>508 | 233=>243 | n=>n,fun | 17=>3 | 18=>6 | 19=>7 | n=>n⟩
theorem Tryz.laysM173:Go.Proofs.LaysM.n173 Tryz.prog Tryz.laysM173_ren:={
 mixed:=by kernel_rfl
 f129:=Tryz.func215.trans (congrArg some (by kernel_rfl))
 f173:=Tryz.func128.trans (congrArg some (by kernel_rfl))
 f246:=Tryz.func197.trans (congrArg some (by kernel_rfl))
 f283:=Tryz.func147.trans (congrArg some (by kernel_rfl))
 f284:=Tryz.func148.trans (congrArg some (by kernel_rfl))
 f285:=Tryz.func149.trans (congrArg some (by kernel_rfl))
 f286:=Tryz.func150.trans (congrArg some (by kernel_rfl))
 f317:=Tryz.func214.trans (congrArg some (by kernel_rfl))
 f318:=Tryz.func216.trans (congrArg some (by kernel_rfl))
 f319:=Tryz.func217.trans (congrArg some (by kernel_rfl))
 f320:=Tryz.func218.trans (congrArg some (by kernel_rfl))
 f337:=Tryz.func313.trans (congrArg some (by kernel_rfl))
 f338:=Tryz.func314.trans (congrArg some (by kernel_rfl))
 t0:=Tryz.underlying0
 a0:=Tryz.isAgg0
 z0:=Tryz.sizeOf0
 v0:=Tryz.zeroValue0
 t2:=Tryz.underlying2
 a2:=Tryz.isAgg2
 z2:=Tryz.sizeOf2
 v2:=Tryz.zeroValue2
 t3:=Tryz.underlying3
 a3:=Tryz.isAgg3
 z3:=Tryz.sizeOf3
 v3:=Tryz.zeroValue3
 t4:=Tryz.underlying4
 a4:=Tryz.isAgg4
 z4:=Tryz.sizeOf4
 v4:=Tryz.zeroValue4
 t5:=Tryz.underlying5
 a5:=Tryz.isAgg5
 z5:=Tryz.sizeOf5
 v5:=Tryz.zeroValue5
 t9:=Tryz.underlying9
 a9:=Tryz.isAgg9
 z9:=Tryz.sizeOf9
 v9:=Tryz.zeroValue9
 t20:=Tryz.underlying20
 a20:=Tryz.isAgg20
 z20:=Tryz.sizeOf20
 v20:=Tryz.zeroValue20
 t37:=Tryz.underlying130
 a37:=Tryz.isAgg130
 z37:=Tryz.sizeOf130
 v37:=Tryz.zeroValue130
 t46:=Tryz.underlying204
 a46:=Tryz.isAgg204
 z46:=Tryz.sizeOf204
 v46:=Tryz.zeroValue204
 t51:=Tryz.underlying293
 a51:=Tryz.isAgg293
 z51:=Tryz.sizeOf293
 v51:=Tryz.zeroValue293
 t53:=Tryz.underlying97
 a53:=Tryz.isAgg97
 z53:=Tryz.sizeOf97
 v53:=Tryz.zeroValue97
 t171:=Tryz.underlying234
 a171:=Tryz.isAgg234
 z171:=Tryz.sizeOf234
 v171:=Tryz.zeroValue234
 t173:=Tryz.underlying237
 a173:=Tryz.isAgg237
 z173:=Tryz.sizeOf237
 v173:=Tryz.zeroValue237
 t212:=Tryz.underlying322
 a212:=Tryz.isAgg322
 z212:=Tryz.sizeOf322
 v212:=Tryz.zeroValue322
 t213:=Tryz.underlying323
 a213:=Tryz.isAgg323
 z213:=Tryz.sizeOf323
 t232:=Tryz.underlying508
 a232:=Tryz.isAgg508
 z232:=Tryz.sizeOf508
 v232:=Tryz.zeroValue508
 t233:=Tryz.underlying243
 a233:=Tryz.isAgg243
 z233:=Tryz.sizeOf243
 v233:=Tryz.zeroValue243
 g17:=by kernel_rfl
 g18:=by kernel_rfl
 g19:=by kernel_rfl
 i0:=by kernel_rfl
 i2:=by kernel_rfl
 i3:=by kernel_rfl
 i4:=by kernel_rfl
 i5:=by kernel_rfl
 i9:=by kernel_rfl
 i20:=by kernel_rfl
 i37:=by kernel_rfl
 i46:=by kernel_rfl
 i51:=by kernel_rfl
 i53:=by kernel_rfl
 i171:=by kernel_rfl
 i173:=by kernel_rfl
 i212:=by kernel_rfl
 i232:=by kernel_rfl
 i233:=by kernel_rfl
 m17:=by kernel_rfl
 m18:=by kernel_rfl
 m19:=by kernel_rfl }
open Go.RowKit Go.Sort Go.Lib in
theorem Tryz.strconv_FormatInt_10 (n:Int) (h0:-9223372036854775808≤n) (h1:n≤9223372036854775807) (w:World) (htab:Lib.TabIs Tryz.prog w "internal/strconv.uint64pow10" .u64 Lib.pow10Tab) :
 Calls Tryz.prog 128 #[.int .i64 n,.int .i64 10] w fun e w'=>e = .returned (.string ⟨(Lib.itoa n).toArray⟩)∧∃k os,w'=grow (w.drewN k) os:=Any.strconv_FormatInt_10 Tryz.laysM173 n h0 h1 w htab
def Tryz.laysC245_ren:Go.Shelf.Ren:=⟨fun | 245=>202 | 279=>294 | 280=>295 | 281=>296 | 282=>297 | 316=>407 | 171=>88 | 205=>408 | 243=>143 | 246=>197 | 283=>147 | 284=>148 | 285=>149 | 286=>150 | 129=>215 | 317=>214 | 318=>216 | 319=>217 | 320=>218 | 337=>313 | 338=>314 | n=>n,fun | 9=>9 | 3=>3 | 75=>137 | 167=>407 | 4=>4 | 168=>410 | 210=>501 | 37=>130 | 0=>0 | 127=>212 | 145=>626 | 143=>624 | 2=>2 | 171=>234 | 53=>97 | 5=>5 | 173=>237 | 212=>322 | 51=>293 | 20=>20 | 213=>323 | 46=>204 | 232=>508 | 233=>243 | 80=>44 | n=>n,fun | 15=>4 | 16=>5 | 17=>3 | 18=>6 | 19=>7 | n=>n⟩
def Tryz.laysC174_ren:Go.Shelf.Ren:=⟨fun | 174=>138 | 247=>201 | 245=>202 | 287=>293 | 279=>294 | 280=>295 | 281=>296 | 282=>297 | 321=>405 | 322=>406 | 316=>407 | 171=>88 | 205=>408 | 243=>143 | 246=>197 | 283=>147 | 284=>148 | 285=>149 | 286=>150 | 129=>215 | 317=>214 | 318=>216 | 319=>217 | 320=>218 | 337=>313 | 338=>314 | n=>n,fun | 9=>9 | 3=>3 | 2=>2 | 75=>137 | 85=>208 | 4=>4 | 167=>407 | 5=>5 | 53=>97 | 175=>408 | 46=>204 | 168=>410 | 37=>130 | 0=>0 | 210=>501 | 21=>21 | 127=>212 | 145=>626 | 143=>624 | 171=>234 | 173=>237 | 212=>322 | 51=>293 | 20=>20 | 213=>323 | 232=>508 | 233=>243 | 80=>44 | n=>n,fun | 15=>4 | 16=>5 | 17=>3 | 18=>6 | 19=>7 | n=>n⟩
theorem Tryz.laysC174:Go.Proofs.LaysC.n174 Tryz.prog Tryz.laysC174_ren:={
 mixed:=by kernel_rfl
 f129:=Tryz.func215.trans (congrArg some (by kernel_rfl))
 f171:=Tryz.func88.trans (congrArg some (by kernel_rfl))
 f174:=Tryz.func138.trans (congrArg some (by kernel_rfl))
 f205:=Tryz.func408.trans (congrArg some (by kernel_rfl))
 f243:=Tryz.func143.trans (congrArg some (by kernel_rfl))
 f245:=Tryz.func202.trans (congrArg some (by kernel_rfl))
 f246:=Tryz.func197.trans (congrArg some (by kernel_rfl))
 f247:=Tryz.func201.trans (congrArg some (by kernel_rfl))
 f279:=Tryz.func294.trans (congrArg some (by kernel_rfl))
 f280:=Tryz.func295.trans (congrArg some (by kernel_rfl))
 f281:=Tryz.func296.trans (congrArg some (by kernel_rfl))
 f282:=Tryz.func297.trans (congrArg some (by kernel_rfl))
 f283:=Tryz.func147.trans (congrArg some (by kernel_rfl))
 f284:=Tryz.func148.trans (congrArg some (by kernel_rfl))
 f285:=Tryz.func149.trans (congrArg some (by kernel_rfl))
 f286:=Tryz.func150.trans (congrArg some (by kernel_rfl))
 f287:=Tryz.func293.trans (congrArg some (by kernel_rfl))
 f316:=Tryz.func407.trans (congrArg some (by kernel_rfl))
 f317:=Tryz.func214.trans (congrArg some (by kernel_rfl))
 f318:=Tryz.func216.trans (congrArg some (by kernel_rfl))
 f319:=Tryz.func217.trans (congrArg some (by kernel_rfl))
 f320:=Tryz.func218.trans (congrArg some (by kernel_rfl))
 f321:=Tryz.func405.trans (congrArg some (by kernel_rfl))
 f322:=Tryz.func406.trans (congrArg some (by kernel_rfl))
 f337:=Tryz.func313.trans (congrArg some (by kernel_rfl))
 f338:=Tryz.func314.trans (congrArg some (by kernel_rfl))
 t0:=Tryz.underlying0
 a0:=Tryz.isAgg0
 z0:=Tryz.sizeOf0
 v0:=Tryz.zeroValue0
 t2:=Tryz.underlying2
 a2:=Tryz.isAgg2
 z2:=Tryz.sizeOf2
 v2:=Tryz.zeroValue2
 t3:=Tryz.underlying3
 a3:=Tryz.isAgg3
 z3:=Tryz.sizeOf3
 v3:=Tryz.zeroValue3
 t4:=Tryz.underlying4
 a4:=Tryz.isAgg4
 z4:=Tryz.sizeOf4
 v4:=Tryz.zeroValue4
 t5:=Tryz.underlying5
 a5:=Tryz.isAgg5
 z5:=Tryz.sizeOf5
 v5:=Tryz.zeroValue5
 t9:=Tryz.underlying9
 a9:=Tryz.isAgg9
 z9:=Tryz.sizeOf9
 v9:=Tryz.zeroValue9
 t20:=Tryz.underlying20
 a20:=Tryz.isAgg20
 z20:=Tryz.sizeOf20
 v20:=Tryz.zeroValue20
 t21:=Tryz.underlying21
 a21:=Tryz.isAgg21
 z21:=Tryz.sizeOf21
 v21:=Tryz.zeroValue21
 t37:=Tryz.underlying130
 a37:=Tryz.isAgg130
 z37:=Tryz.sizeOf130
 v37:=Tryz.zeroValue130
 t46:=Tryz.underlying204
 a46:=Tryz.isAgg204
 z46:=Tryz.sizeOf204
 v46:=Tryz.zeroValue204
 t51:=Tryz.underlying293
 a51:=Tryz.isAgg293
 z51:=Tryz.sizeOf293
 v51:=Tryz.zeroValue293
 t53:=Tryz.underlying97
 a53:=Tryz.isAgg97
 z53:=Tryz.sizeOf97
 v53:=Tryz.zeroValue97
 t75:=Tryz.underlying137
 a75:=Tryz.isAgg137
 z75:=Tryz.sizeOf137
 v75:=Tryz.zeroValue137
 t85:=Tryz.underlying208
 a85:=Tryz.isAgg208
 z85:=Tryz.sizeOf208
 v85:=Tryz.zeroValue208
 t127:=Tryz.underlying212
 a127:=Tryz.isAgg212
 z127:=Tryz.sizeOf212
 v127:=Tryz.zeroValue212
 t143:=Tryz.underlying624
 a143:=Tryz.isAgg624
 z143:=Tryz.sizeOf624
 v143:=Tryz.zeroValue624
 t145:=Tryz.underlying626
 a145:=Tryz.isAgg626
 z145:=Tryz.sizeOf626
 v145:=Tryz.zeroValue626
 t167:=Tryz.underlying407
 a167:=Tryz.isAgg407
 z167:=Tryz.sizeOf407
 v167:=Tryz.zeroValue407
 t168:=Tryz.underlying410
 a168:=Tryz.isAgg410
 z168:=Tryz.sizeOf410
 v168:=Tryz.zeroValue410
 t171:=Tryz.underlying234
 a171:=Tryz.isAgg234
 z171:=Tryz.sizeOf234
 v171:=Tryz.zeroValue234
 t173:=Tryz.underlying237
 a173:=Tryz.isAgg237
 z173:=Tryz.sizeOf237
 v173:=Tryz.zeroValue237
 t175:=Tryz.underlying408
 a175:=Tryz.isAgg408
 z175:=Tryz.sizeOf408
 v175:=Tryz.zeroValue408
 t210:=Tryz.underlying501
 a210:=Tryz.isAgg501
 z210:=Tryz.sizeOf501
 v210:=Tryz.zeroValue501
 t212:=Tryz.underlying322
 a212:=Tryz.isAgg322
 z212:=Tryz.sizeOf322
 v212:=Tryz.zeroValue322
 t213:=Tryz.underlying323
 a213:=Tryz.isAgg323
 z213:=Tryz.sizeOf323
 t232:=Tryz.underlying508
 a232:=Tryz.isAgg508
 z232:=Tryz.sizeOf508
 v232:=Tryz.zeroValue508
 t233:=Tryz.underlying243
 a233:=Tryz.isAgg243
 z233:=Tryz.sizeOf243
 v233:=Tryz.zeroValue243
 g15:=by kernel_rfl
 g16:=by kernel_rfl
 g17:=by kernel_rfl
 g18:=by kernel_rfl
 g19:=by kernel_rfl
 t80:=Tryz.underlying44
 a80:=Tryz.isAgg44
 z80:=Tryz.sizeOf44
 v80:=Tryz.zeroValue44
 i0:=by kernel_rfl
 i2:=by kernel_rfl
 i3:=by kernel_rfl
 i4:=by kernel_rfl
 i5:=by kernel_rfl
 i9:=by kernel_rfl
 i20:=by kernel_rfl
 i21:=by kernel_rfl
 i37:=by kernel_rfl
 i46:=by kernel_rfl
 i51:=by kernel_rfl
 i53:=by kernel_rfl
 i75:=by kernel_rfl
 i80:=by kernel_rfl
 i85:=by kernel_rfl
 i127:=by kernel_rfl
 i143:=by kernel_rfl
 i145:=by kernel_rfl
 i167:=by kernel_rfl
 i168:=by kernel_rfl
 i171:=by kernel_rfl
 i173:=by kernel_rfl
 i175:=by kernel_rfl
 i210:=by kernel_rfl
 i212:=by kernel_rfl
 i232:=by kernel_rfl
 i233:=by kernel_rfl
 m15:=by kernel_rfl
 m16:=by kernel_rfl
 m17:=by kernel_rfl
 m18:=by kernel_rfl
 m19:=by kernel_rfl
 c0:=by kernel_rfl
 c2:=by kernel_rfl
 c3:=by kernel_rfl
 c4:=by kernel_rfl
 c5:=by kernel_rfl
 c9:=by kernel_rfl
 c20:=by kernel_rfl
 c21:=by kernel_rfl
 c37:=by kernel_rfl
 c46:=by kernel_rfl
 c51:=by kernel_rfl
 c53:=by kernel_rfl
 c75:=by kernel_rfl
 c80:=by kernel_rfl
 c85:=by kernel_rfl
 c127:=by kernel_rfl
 c143:=by kernel_rfl
 c145:=by kernel_rfl
 c167:=by kernel_rfl
 c168:=by kernel_rfl
 c171:=by kernel_rfl
 c173:=by kernel_rfl
 c175:=by kernel_rfl
 c210:=by kernel_rfl
 c212:=by kernel_rfl
 c213:=by kernel_rfl
 c232:=by kernel_rfl
 c233:=by kernel_rfl }
open Go.RowKit in
theorem Tryz.strconv_ParseInt_10_at64_ok (s:ByteArray) (hmax:s.size≤9223372036854775806) (v:Int) (h:Lib.parseIntB 64 s.data.toList = .ok v) (w:World) :
 Calls Tryz.prog 138 #[.string s,.int .i64 10,.int .i64 64] w fun e w'=>e = .returned (.tuple #[.int .i64 v,.nilIface])∧(w'=w∨∃t,w'=Lib.bytesWorld w 5 t):=Any.strconv_ParseInt_10_at64_ok Tryz.laysC174 s hmax v h w
open Go.RowKit in
theorem Tryz.strconv_ParseInt_10_at64_syntax_var (s:ByteArray) (hlim:s.size≤281474976710656) (h:Lib.parseIntB 64 s.data.toList = Lib.NumEnd.syntax) (tp:TypeId) (p:Value) (w:World) (hvar:w.var? Tryz.prog "strconv.ErrSyntax" = some #[.iface tp p]) :
 Calls Tryz.prog 138 #[.string s,.int .i64 10,.int .i64 64] w fun e w'=>∃N,e = .returned (.tuple #[.int .i64 (0),.iface 410 (.pointer (some ⟨N,0,none⟩))])∧w.heap.size≤N∧w'.heap[N]? = some (.cells #[.string ⟨#[80,97,114,115,101,73,110,116]⟩,.string s,.iface tp p] 501 (0,0))∧Below w.heap.size w w':=Any.strconv_ParseInt_10_at64_syntax_var Tryz.laysC174 s hlim h tp p w hvar
open Go.RowKit in
theorem Tryz.strconv_ParseInt_10_at64_range_var (s:ByteArray) (hlim:s.size≤281474976710656) (h:Lib.parseIntB 64 s.data.toList = .range) (tp:TypeId) (p:Value) (w:World) (hvar:w.var? Tryz.prog "strconv.ErrRange" = some #[.iface tp p]) :
 Calls Tryz.prog 138 #[.string s,.int .i64 10,.int .i64 64] w fun e w'=>∃N,e = .returned (.tuple #[.int .i64 (Lib.intSat 64 s.data.toList),.iface 410 (.pointer (some ⟨N,0,none⟩))])∧w.heap.size≤N∧w'.heap[N]? = some (.cells #[.string ⟨#[80,97,114,115,101,73,110,116]⟩,.string s,.iface tp p] 501 (0,0))∧Below w.heap.size w w':=Any.strconv_ParseInt_10_at64_range_var Tryz.laysC174 s hlim h tp p w hvar
def Tryz.lays217_ren:Go.Shelf.Ren:=⟨fun | 217=>130 | 266=>199 | n=>n,fun | 9=>9 | 5=>5 | 3=>3 | n=>n,fun | n=>n⟩
theorem Tryz.lays217:Go.Proofs.Lays.n217 Tryz.prog Tryz.lays217_ren:={
 mixed:=by kernel_rfl
 f217:=Tryz.func130.trans (congrArg some (by kernel_rfl))
 f266:=Tryz.func199.trans (congrArg some (by kernel_rfl))
 t3:=Tryz.underlying3
 a3:=Tryz.isAgg3
 z3:=Tryz.sizeOf3
 v3:=Tryz.zeroValue3
 t5:=Tryz.underlying5
 a5:=Tryz.isAgg5
 z5:=Tryz.sizeOf5
 v5:=Tryz.zeroValue5
 t9:=Tryz.underlying9
 a9:=Tryz.isAgg9
 z9:=Tryz.sizeOf9
 v9:=Tryz.zeroValue9 }
open Go.RowKit Go.Lib in
theorem Tryz.stringslite_IndexByte (s:ByteArray) (c:Int) (w:World) :
 Calls Tryz.prog 130 #[.string s,.int .u8 c] w fun e w'=>e = .returned (.int .i64 (Lib.indexByte s.data.toList c.toNat.toUInt8))∧w'=w:=Any.stringslite_IndexByte Tryz.lays217 s c w
def Tryz.lays219_ren:Go.Shelf.Ren:=⟨fun | 219=>73 | 217=>130 | 225=>131 | 224=>132 | 267=>133 | 266=>199 | 314=>200 | n=>n,fun | 9=>9 | 3=>3 | 4=>4 | 5=>5 | 46=>204 | 146=>294 | 51=>293 | n=>n,fun | 1=>0 | n=>n⟩
def Tryz.lays144_ren:Go.Shelf.Ren:=⟨fun | 144=>22 | 143=>46 | 219=>73 | 217=>130 | 225=>131 | 224=>132 | 267=>133 | 266=>199 | 314=>200 | n=>n,fun | 9=>9 | 4=>4 | 3=>3 | 5=>5 | 46=>204 | 146=>294 | 51=>293 | n=>n,fun | 1=>0 | n=>n⟩
theorem Tryz.lays144:Go.Proofs.Lays.n144 Tryz.prog Tryz.lays144_ren:={
 mixed:=by kernel_rfl
 f143:=Tryz.func46.trans (congrArg some (by kernel_rfl))
 f144:=Tryz.func22.trans (congrArg some (by kernel_rfl))
 f217:=Tryz.func130.trans (congrArg some (by kernel_rfl))
 f219:=Tryz.func73.trans (congrArg some (by kernel_rfl))
 f224:=Tryz.func132.trans (congrArg some (by kernel_rfl))
 f225:=Tryz.func131.trans (congrArg some (by kernel_rfl))
 f266:=Tryz.func199.trans (congrArg some (by kernel_rfl))
 f267:=Tryz.func133.trans (congrArg some (by kernel_rfl))
 f314:=Tryz.func200.trans (congrArg some (by kernel_rfl))
 t3:=Tryz.underlying3
 a3:=Tryz.isAgg3
 z3:=Tryz.sizeOf3
 v3:=Tryz.zeroValue3
 t4:=Tryz.underlying4
 a4:=Tryz.isAgg4
 z4:=Tryz.sizeOf4
 v4:=Tryz.zeroValue4
 t5:=Tryz.underlying5
 a5:=Tryz.isAgg5
 z5:=Tryz.sizeOf5
 v5:=Tryz.zeroValue5
 t9:=Tryz.underlying9
 a9:=Tryz.isAgg9
 z9:=Tryz.sizeOf9
 v9:=Tryz.zeroValue9
 t46:=Tryz.underlying204
 a46:=Tryz.isAgg204
 z46:=Tryz.sizeOf204
 v46:=Tryz.zeroValue204
 t51:=Tryz.underlying293
 a51:=Tryz.isAgg293
 z51:=Tryz.sizeOf293
 v51:=Tryz.zeroValue293
 t146:=Tryz.underlying294
 a146:=Tryz.isAgg294
 z146:=Tryz.sizeOf294
 v146:=Tryz.zeroValue294
 g1:=by kernel_rfl }
open Go.RowKit Go.Lib in
theorem Tryz.strings_Contains_one (s:ByteArray) (c:UInt8) (w:World) :
 Calls Tryz.prog 22 #[.string s,.string ⟨#[c]⟩] w fun e w'=>e = .returned (.bool (decide (0≤Lib.indexByte s.data.toList c)))∧w'=w:=Any.strings_Contains_one Tryz.lays144 s c w
def Tryz.lays138_ren:Go.Shelf.Ren:=⟨fun | 138=>292 | 195=>403 | 218=>404 | 143=>46 | 219=>73 | 217=>130 | 225=>131 | 224=>132 | 267=>133 | 266=>199 | 314=>200 | n=>n,fun | 9=>9 | 3=>3 | 4=>4 | 5=>5 | 0=>0 | 46=>204 | 146=>294 | 51=>293 | n=>n,fun | 1=>0 | n=>n⟩
theorem Tryz.lays138:Go.Proofs.Lays.n138 Tryz.prog Tryz.lays138_ren:={
 mixed:=by kernel_rfl
 f138:=Tryz.func292.trans (congrArg some (by kernel_rfl))
 f143:=Tryz.func46.trans (congrArg some (by kernel_rfl))
 f195:=Tryz.func403.trans (congrArg some (by kernel_rfl))
 f217:=Tryz.func130.trans (congrArg some (by kernel_rfl))
 f218:=Tryz.func404.trans (congrArg some (by kernel_rfl))
 f219:=Tryz.func73.trans (congrArg some (by kernel_rfl))
 f224:=Tryz.func132.trans (congrArg some (by kernel_rfl))
 f225:=Tryz.func131.trans (congrArg some (by kernel_rfl))
 f266:=Tryz.func199.trans (congrArg some (by kernel_rfl))
 f267:=Tryz.func133.trans (congrArg some (by kernel_rfl))
 f314:=Tryz.func200.trans (congrArg some (by kernel_rfl))
 t0:=Tryz.underlying0
 a0:=Tryz.isAgg0
 z0:=Tryz.sizeOf0
 v0:=Tryz.zeroValue0
 t3:=Tryz.underlying3
 a3:=Tryz.isAgg3
 z3:=Tryz.sizeOf3
 v3:=Tryz.zeroValue3
 t4:=Tryz.underlying4
 a4:=Tryz.isAgg4
 z4:=Tryz.sizeOf4
 v4:=Tryz.zeroValue4
 t5:=Tryz.underlying5
 a5:=Tryz.isAgg5
 z5:=Tryz.sizeOf5
 v5:=Tryz.zeroValue5
 t9:=Tryz.underlying9
 a9:=Tryz.isAgg9
 z9:=Tryz.sizeOf9
 v9:=Tryz.zeroValue9
 t46:=Tryz.underlying204
 a46:=Tryz.isAgg204
 z46:=Tryz.sizeOf204
 v46:=Tryz.zeroValue204
 t51:=Tryz.underlying293
 a51:=Tryz.isAgg293
 z51:=Tryz.sizeOf293
 v51:=Tryz.zeroValue293
 t146:=Tryz.underlying294
 a146:=Tryz.isAgg294
 z146:=Tryz.sizeOf294
 v146:=Tryz.zeroValue294
 g1:=by kernel_rfl }
open Go.RowKit Go.Lib in
theorem Tryz.strings_Count_one (s:ByteArray) (c:UInt8) (w:World) :
 Calls Tryz.prog 292 #[.string s,.string ⟨#[c]⟩] w fun e w'=>e = .returned (.int .i64 (Lib.countByte s.data.toList c))∧w'=w:=Any.strings_Count_one Tryz.lays138 s c w
def Tryz.lays206_ren:Go.Shelf.Ren:=⟨fun | 206=>134 | n=>n,fun | 9=>9 | 4=>4 | 3=>3 | n=>n,fun | n=>n⟩
def Tryz.lays99_ren:Go.Shelf.Ren:=⟨fun | 99=>74 | 206=>134 | n=>n,fun | 9=>9 | 4=>4 | 3=>3 | n=>n,fun | n=>n⟩
theorem Tryz.lays99:Go.Proofs.Lays.n99 Tryz.prog Tryz.lays99_ren:={
 mixed:=by kernel_rfl
 f99:=Tryz.func74.trans (congrArg some (by kernel_rfl))
 f206:=Tryz.func134.trans (congrArg some (by kernel_rfl))
 t3:=Tryz.underlying3
 a3:=Tryz.isAgg3
 z3:=Tryz.sizeOf3
 v3:=Tryz.zeroValue3
 t4:=Tryz.underlying4
 a4:=Tryz.isAgg4
 z4:=Tryz.sizeOf4
 v4:=Tryz.zeroValue4
 t9:=Tryz.underlying9
 a9:=Tryz.isAgg9
 z9:=Tryz.sizeOf9
 v9:=Tryz.zeroValue9 }
open Go.RowKit Go.Lib in
theorem Tryz.strings_HasPrefix (s p:ByteArray) (w:World) :
 Calls Tryz.prog 74 #[.string s,.string p] w fun e w'=>e = .returned (.bool (Lib.hasPrefix s.data.toList p.data.toList))∧w'=w:=Any.strings_HasPrefix Tryz.lays99 s p w
def Tryz.lays100_ren:Go.Shelf.Ren:=⟨fun | 100=>75 | 207=>135 | n=>n,fun | 9=>9 | 4=>4 | 3=>3 | n=>n,fun | n=>n⟩
theorem Tryz.lays100:Go.Proofs.Lays.n100 Tryz.prog Tryz.lays100_ren:={
 mixed:=by kernel_rfl
 f100:=Tryz.func75.trans (congrArg some (by kernel_rfl))
 f207:=Tryz.func135.trans (congrArg some (by kernel_rfl))
 t3:=Tryz.underlying3
 a3:=Tryz.isAgg3
 z3:=Tryz.sizeOf3
 v3:=Tryz.zeroValue3
 t4:=Tryz.underlying4
 a4:=Tryz.isAgg4
 z4:=Tryz.sizeOf4
 v4:=Tryz.zeroValue4
 t9:=Tryz.underlying9
 a9:=Tryz.isAgg9
 z9:=Tryz.sizeOf9
 v9:=Tryz.zeroValue9 }
open Go.RowKit Go.Lib in
theorem Tryz.strings_HasSuffix (s p:ByteArray) (w:World) (hs:s.size≤9223372036854775807) :
 Calls Tryz.prog 75 #[.string s,.string p] w fun e w'=>e = .returned (.bool (Lib.hasSuffix s.data.toList p.data.toList))∧w'=w:=Any.strings_HasSuffix Tryz.lays100 s p w hs
def Tryz.lays101_ren:Go.Shelf.Ren:=⟨fun | 101=>38 | 208=>80 | 206=>134 | n=>n,fun | 9=>9 | 4=>4 | 3=>3 | n=>n,fun | n=>n⟩
theorem Tryz.lays101:Go.Proofs.Lays.n101 Tryz.prog Tryz.lays101_ren:={
 mixed:=by kernel_rfl
 f101:=Tryz.func38.trans (congrArg some (by kernel_rfl))
 f206:=Tryz.func134.trans (congrArg some (by kernel_rfl))
 f208:=Tryz.func80.trans (congrArg some (by kernel_rfl))
 t3:=Tryz.underlying3
 a3:=Tryz.isAgg3
 z3:=Tryz.sizeOf3
 v3:=Tryz.zeroValue3
 t4:=Tryz.underlying4
 a4:=Tryz.isAgg4
 z4:=Tryz.sizeOf4
 v4:=Tryz.zeroValue4
 t9:=Tryz.underlying9
 a9:=Tryz.isAgg9
 z9:=Tryz.sizeOf9
 v9:=Tryz.zeroValue9 }
open Go.RowKit Go.Lib in
theorem Tryz.strings_TrimPrefix (s p:ByteArray) (w:World) :
 Calls Tryz.prog 38 #[.string s,.string p] w fun e w'=>e = .returned (.string ⟨(Lib.trimPrefix s.data.toList p.data.toList).toArray⟩)∧w'=w:=Any.strings_TrimPrefix Tryz.lays101 s p w
def Tryz.lays157_ren:Go.Shelf.Ren:=⟨fun | 157=>531 | 229=>609 | 199=>610 | 261=>686 | 311=>730 | 312=>731 | n=>n,fun | 9=>9 | 31=>50 | 3=>3 | 5=>5 | 4=>4 | 119=>297 | 0=>0 | 40=>301 | 152=>765 | 21=>21 | 154=>767 | 51=>293 | 141=>769 | 196=>807 | 193=>804 | 198=>810 | 49=>808 | 194=>805 | 201=>813 | 226=>828 | 46=>204 | 227=>829 | n=>n,fun | 0=>8 | 6=>9 | n=>n⟩
theorem Tryz.lays157:Go.Proofs.Lays.n157 Tryz.prog Tryz.lays157_ren:={
 mixed:=by kernel_rfl
 f157:=Tryz.func531.trans (congrArg some (by kernel_rfl))
 f199:=Tryz.func610.trans (congrArg some (by kernel_rfl))
 f229:=Tryz.func609.trans (congrArg some (by kernel_rfl))
 f261:=Tryz.func686.trans (congrArg some (by kernel_rfl))
 f311:=Tryz.func730.trans (congrArg some (by kernel_rfl))
 f312:=Tryz.func731.trans (congrArg some (by kernel_rfl))
 t0:=Tryz.underlying0
 a0:=Tryz.isAgg0
 z0:=Tryz.sizeOf0
 v0:=Tryz.zeroValue0
 t3:=Tryz.underlying3
 a3:=Tryz.isAgg3
 z3:=Tryz.sizeOf3
 v3:=Tryz.zeroValue3
 t4:=Tryz.underlying4
 a4:=Tryz.isAgg4
 z4:=Tryz.sizeOf4
 v4:=Tryz.zeroValue4
 t5:=Tryz.underlying5
 a5:=Tryz.isAgg5
 z5:=Tryz.sizeOf5
 v5:=Tryz.zeroValue5
 t9:=Tryz.underlying9
 a9:=Tryz.isAgg9
 z9:=Tryz.sizeOf9
 v9:=Tryz.zeroValue9
 t21:=Tryz.underlying21
 a21:=Tryz.isAgg21
 z21:=Tryz.sizeOf21
 v21:=Tryz.zeroValue21
 t31:=Tryz.underlying50
 a31:=Tryz.isAgg50
 z31:=Tryz.sizeOf50
 v31:=Tryz.zeroValue50
 t40:=Tryz.underlying301
 a40:=Tryz.isAgg301
 z40:=Tryz.sizeOf301
 v40:=Tryz.zeroValue301
 t46:=Tryz.underlying204
 a46:=Tryz.isAgg204
 z46:=Tryz.sizeOf204
 v46:=Tryz.zeroValue204
 t49:=Tryz.underlying808
 a49:=Tryz.isAgg808
 z49:=Tryz.sizeOf808
 v49:=Tryz.zeroValue808
 t51:=Tryz.underlying293
 a51:=Tryz.isAgg293
 z51:=Tryz.sizeOf293
 v51:=Tryz.zeroValue293
 t119:=Tryz.underlying297
 a119:=Tryz.isAgg297
 z119:=Tryz.sizeOf297
 t141:=Tryz.underlying769
 a141:=Tryz.isAgg769
 z141:=Tryz.sizeOf769
 v141:=Tryz.zeroValue769
 t152:=Tryz.underlying765
 a152:=Tryz.isAgg765
 z152:=Tryz.sizeOf765
 v152:=Tryz.zeroValue765
 t154:=Tryz.underlying767
 a154:=Tryz.isAgg767
 z154:=Tryz.sizeOf767
 v154:=Tryz.zeroValue767
 t193:=Tryz.underlying804
 a193:=Tryz.isAgg804
 z193:=Tryz.sizeOf804
 v193:=Tryz.zeroValue804
 t194:=Tryz.underlying805
 a194:=Tryz.isAgg805
 z194:=Tryz.sizeOf805
 v194:=Tryz.zeroValue805
 t196:=Tryz.underlying807
 a196:=Tryz.isAgg807
 z196:=Tryz.sizeOf807
 v196:=Tryz.zeroValue807
 t198:=Tryz.underlying810
 a198:=Tryz.isAgg810
 z198:=Tryz.sizeOf810
 v198:=Tryz.zeroValue810
 t201:=Tryz.underlying813
 a201:=Tryz.isAgg813
 z201:=Tryz.sizeOf813
 v201:=Tryz.zeroValue813
 t226:=Tryz.underlying828
 a226:=Tryz.isAgg828
 z226:=Tryz.sizeOf828
 v226:=Tryz.zeroValue828
 t227:=Tryz.underlying829
 a227:=Tryz.isAgg829
 z227:=Tryz.sizeOf829
 v227:=Tryz.zeroValue829
 g0:=by kernel_rfl
 g6:=by kernel_rfl }
open Go.RowKit Go.Lib in
theorem Tryz.strings_Fields (s:ByteArray) (w:World) (hs:s.size < 4294967281) (hascii:∀(j:Nat) b,s.data.toList[j]? = some b→b.toNat < 128) (htab:Lib.TabIs Tryz.prog w "strings.asciiSpace" .u8 Lib.asciiSpaceTab) :
 Calls Tryz.prog 531 #[.string s] w fun e w'=>
  e = .returned (.slice (some ⟨w.heap.size,0,none⟩) (Lib.fields s.data.toList).length (Lib.fields s.data.toList).length)∧w'=w.alloc (.cells ((Lib.fields s.data.toList).map fun l=>Value.string ⟨l.toArray⟩).toArray 9):=Any.strings_Fields Tryz.lays157 (by kernel_rfl) (by kernel_rfl) s w hs hascii htab
def Tryz.lays105_ren:Go.Shelf.Ren:=⟨fun | 105=>304 | 212=>410 | 99=>74 | 165=>151 | 166=>152 | 170=>411 | 169=>90 | 263=>522 | 264=>523 | 206=>134 | 240=>144 | 241=>219 | 276=>204 | 277=>315 | n=>n,fun | 9=>9 | 3=>3 | 4=>4 | 20=>20 | 0=>0 | 46=>204 | 109=>504 | 5=>5 | 72=>135 | 76=>240 | 51=>293 | 146=>294 | 53=>97 | 148=>628 | 70=>133 | 37=>130 | 75=>137 | 127=>212 | 164=>302 | 80=>44 | n=>n,fun | n=>n⟩
theorem Tryz.lays105:Go.Proofs.Lays.n105 Tryz.prog Tryz.lays105_ren:={
 mixed:=by kernel_rfl
 f99:=Tryz.func74.trans (congrArg some (by kernel_rfl))
 f105:=Tryz.func304.trans (congrArg some (by kernel_rfl))
 f165:=Tryz.func151.trans (congrArg some (by kernel_rfl))
 f166:=Tryz.func152.trans (congrArg some (by kernel_rfl))
 f169:=Tryz.func90.trans (congrArg some (by kernel_rfl))
 f170:=Tryz.func411.trans (congrArg some (by kernel_rfl))
 f206:=Tryz.func134.trans (congrArg some (by kernel_rfl))
 f212:=Tryz.func410.trans (congrArg some (by kernel_rfl))
 f240:=Tryz.func144.trans (congrArg some (by kernel_rfl))
 f241:=Tryz.func219.trans (congrArg some (by kernel_rfl))
 f263:=Tryz.func522.trans (congrArg some (by kernel_rfl))
 f264:=Tryz.func523.trans (congrArg some (by kernel_rfl))
 f276:=Tryz.func204.trans (congrArg some (by kernel_rfl))
 f277:=Tryz.func315.trans (congrArg some (by kernel_rfl))
 t0:=Tryz.underlying0
 a0:=Tryz.isAgg0
 z0:=Tryz.sizeOf0
 v0:=Tryz.zeroValue0
 t3:=Tryz.underlying3
 a3:=Tryz.isAgg3
 z3:=Tryz.sizeOf3
 v3:=Tryz.zeroValue3
 t4:=Tryz.underlying4
 a4:=Tryz.isAgg4
 z4:=Tryz.sizeOf4
 v4:=Tryz.zeroValue4
 t5:=Tryz.underlying5
 a5:=Tryz.isAgg5
 z5:=Tryz.sizeOf5
 v5:=Tryz.zeroValue5
 t9:=Tryz.underlying9
 a9:=Tryz.isAgg9
 z9:=Tryz.sizeOf9
 v9:=Tryz.zeroValue9
 t20:=Tryz.underlying20
 a20:=Tryz.isAgg20
 z20:=Tryz.sizeOf20
 v20:=Tryz.zeroValue20
 t37:=Tryz.underlying130
 a37:=Tryz.isAgg130
 z37:=Tryz.sizeOf130
 v37:=Tryz.zeroValue130
 t46:=Tryz.underlying204
 a46:=Tryz.isAgg204
 z46:=Tryz.sizeOf204
 v46:=Tryz.zeroValue204
 t51:=Tryz.underlying293
 a51:=Tryz.isAgg293
 z51:=Tryz.sizeOf293
 v51:=Tryz.zeroValue293
 t53:=Tryz.underlying97
 a53:=Tryz.isAgg97
 z53:=Tryz.sizeOf97
 v53:=Tryz.zeroValue97
 t70:=Tryz.underlying133
 a70:=Tryz.isAgg133
 z70:=Tryz.sizeOf133
 v70:=Tryz.zeroValue133
 t72:=Tryz.underlying135
 a72:=Tryz.isAgg135
 z72:=Tryz.sizeOf135
 v72:=Tryz.zeroValue135
 t75:=Tryz.underlying137
 a75:=Tryz.isAgg137
 z75:=Tryz.sizeOf137
 v75:=Tryz.zeroValue137
 t76:=Tryz.underlying240
 a76:=Tryz.isAgg240
 z76:=Tryz.sizeOf240
 v76:=Tryz.zeroValue240
 t109:=Tryz.underlying504
 a109:=Tryz.isAgg504
 z109:=Tryz.sizeOf504
 v109:=Tryz.zeroValue504
 t127:=Tryz.underlying212
 a127:=Tryz.isAgg212
 z127:=Tryz.sizeOf212
 v127:=Tryz.zeroValue212
 t146:=Tryz.underlying294
 a146:=Tryz.isAgg294
 z146:=Tryz.sizeOf294
 v146:=Tryz.zeroValue294
 t148:=Tryz.underlying628
 a148:=Tryz.isAgg628
 z148:=Tryz.sizeOf628
 v148:=Tryz.zeroValue628
 t164:=Tryz.underlying302
 a164:=Tryz.isAgg302
 z164:=Tryz.sizeOf302
 v164:=Tryz.zeroValue302 }
theorem Tryz.Builder_Extra_105:Builder.Extra Tryz.prog Tryz.lays105_ren:={
 sizeBuilder:=by kernel_rfl
 liesBuilder:=by kernel_rfl
 t5:=Tryz.underlying5
 a5:=Tryz.isAgg5
 z5:=Tryz.sizeOf5
 v5:=Tryz.zeroValue5
 infoByte:=by kernel_rfl
 cellsByte:=by kernel_rfl
 sizeByte:=by kernel_rfl
 neB5:=by decide }
open Go.RowKit Go.Lib in
theorem Tryz.strings_Repeat (s:ByteArray) (c:Nat) (w:World) (hc:c≤9223372036854775807) (hlen:s.size*c≤140737488355328) :
 Calls Tryz.prog 304 #[.string s,.int .i64 c] w fun e w'=>e = .returned (.string ⟨(Lib.repeatL s.data.toList c).toArray⟩)∧Below w.heap.size w w':=Any.strings_Repeat Tryz.lays105 Tryz.Builder_Extra_105 s c w hc hlen
end Go.Proofs
namespace Go.Proofs.YtjoefbioobdinaaGreatDoor
open Go.RowKit Am
set_option maxRecDepth 100000
noncomputable def BZ:Nat:=(Tryz.prog.globalNamed "strings.asciiSpace").getD 0
theorem xV:Tryz.prog.globalNamed "strings.asciiSpace" = some BZ:=by kernel_rfl
noncomputable def Ox:Nat:=(Tryz.prog.globalNamed "internal/strconv.uint64pow10").getD 0
theorem xW:Tryz.prog.globalNamed "internal/strconv.uint64pow10" = some Ox:=by kernel_rfl
noncomputable def Ri:Nat:=(Tryz.prog.globalNamed "strconv.ErrSyntax").getD 0
theorem DX:Tryz.prog.globalNamed "strconv.ErrSyntax" = some Ri:=by kernel_rfl
noncomputable def Rj:Nat:=(Tryz.prog.globalNamed "strconv.ErrRange").getD 0
theorem DY:Tryz.prog.globalNamed "strconv.ErrRange" = some Rj:=by kernel_rfl
def uL (c:Array Value):Prop:=∃te pe,c = #[.iface te pe]
noncomputable instance glI:Gl:={ gl:=[(BZ,fun c=>c=(Lib.asciiSpaceTab.map fun z=>Value.int .u8 z).toArray),(Ox,fun c=>c=(Lib.pow10Tab.map fun z=>Value.int .u64 z).toArray),(Ri,uL),(Rj,uL)],mark:=fun t=>Nat.beq t 5 }
theorem KX:(BZ,fun c=>c=(Lib.asciiSpaceTab.map fun z=>Value.int .u8 z).toArray)∈Gl.gl:=List.mem_cons_self ..
theorem Rk:(Ox,fun c=>c=(Lib.pow10Tab.map fun z=>Value.int .u64 z).toArray)∈Gl.gl:=List.mem_cons_of_mem _ (List.mem_cons_self ..)
theorem Rl:(Ri,uL)∈Gl.gl:=List.mem_cons_of_mem _ (List.mem_cons_of_mem _ (List.mem_cons_self ..))
theorem Rm:(Rj,uL)∈Gl.gl:=List.mem_cons_of_mem _ (List.mem_cons_of_mem _ (List.mem_cons_of_mem _ (List.mem_cons_self ..)))
theorem KY {κ:bn} {w:World} (h:Ay κ w):Lib.TabIs Tryz.prog w "strings.asciiSpace" .u8 Lib.asciiSpaceTab:=by
 obtain ⟨_,c,ty,fz,h2,h3⟩:=h.gl _ KX;have h3:c=(Lib.asciiSpaceTab.map fun z=>Value.int .u8 z).toArray:=h3;subst h3;have h2:w.heap[BZ]? = _:=h2;unfold Lib.TabIs World.var?;rw [xV];simp only [Option.bind_some,h2]
theorem KZ {κ:bn} {w:World} (h:Ay κ w):Lib.TabIs Tryz.prog w "internal/strconv.uint64pow10" .u64 Lib.pow10Tab:=by
 obtain ⟨_,c,ty,fz,h2,h3⟩:=h.gl _ Rk;have h3:c=(Lib.pow10Tab.map fun z=>Value.int .u64 z).toArray:=h3;subst h3;have h2:w.heap[Ox]? = _:=h2;unfold Lib.TabIs World.var?;rw [xW];simp only [Option.bind_some,h2]
theorem jM {κ:bn} {φ:bG} {w:World} {objs:List au} (h1:∀i,OR κ φ (aN objs) w.heap i (aN objs i)) (h2:Ay κ w) :
 av κ φ w { n:=0,R:=fun _=>.bot,O:=aN objs } { tmps:=#[],defers:=[] }:=⟨fun _=>.bot _,h1,h2,rfl,trivial⟩
theorem arg1 {κ:bn} {φ:bG} {O:Tab} {h:Heap} {vs:Array Value} {x:RV} (h3:vs.size=[x].length) (h4:∀(i:Nat) (y:RV) (v:Value),[x][i]? = some y→vs[i]? = some v→bB κ φ O h y v) :
 ∃v,vs = #[v]∧bB κ φ O h x v:=by
 have hs:vs.size=1:=by simpa using h3
 refine ⟨vs[0],?_,h4 0 x _ rfl (by simp [hs])⟩;apply Array.ext
 ·simpa using hs
 ·intro i hi hi2;simp at hi2;subst hi2;rfl
def Ca (s:List UInt8):Bool:=s.all fun b=>Nat.ble b.toNat 127
theorem DZ {s:List UInt8} (h:Ca s=true) (j:Nat) (b:UInt8) (hj:s[j]? = some b):b.toNat < 128:=by
 have:=List.all_eq_true.1 h b (List.mem_of_getElem? hj)
 have:=Nat.le_of_ble_eq_true this
 omega
def nI (s:List UInt8):List RV:=(Lib.fields s).map fun l=>.d (.str l)
theorem La (s:List UInt8) (hs:s.length < 4294967281) (ha:Ca s=true) :
 C Tryz.prog 531 [.d (.str s)] [] (fun r o=>r = .sl 0 1 0 (Lib.fields s).length (some (Lib.fields s).length)∧o=[.bL 9 (nI s)]):=by
 intro κ φ w vs h1 h2 h3 h4;obtain ⟨v,rfl,hv⟩:=arg1 h3 h4;cases hv with
 | d hd=>
 cases hd;refine (Tryz.strings_Fields ⟨s.toArray⟩ w (by simpa [ByteArray.size] using hs) (fun j b hj=>DZ ha j b (by simpa using hj)) (KY h2)).mono ?_
 rintro e w' ⟨rfl,rfl⟩
 have F:=jM h1 h2
 obtain ⟨q1,q2,q3⟩:=F.alloc (i:=0) (p:=.bL 9 (nI s)) (o:=.cells ((Lib.fields s).map fun l=>Value.string ⟨l.toArray⟩).toArray 9)
  (w':=w.alloc (.cells ((Lib.fields s).map fun l=>Value.string ⟨l.toArray⟩).toArray 9)) rfl (by simp [aN])
  (fun M=>⟨_,_,(0,0),aM _ _ _,bR _ _ _,aO _ _,CW _ _,by simp [nI],fun j x v hx hv=>by
    simp only [nI,List.getElem?_map,Option.map_eq_some_iff] at hx;obtain ⟨l,hl,rfl⟩:=hx;simp only [Nat.zero_add,List.getElem?_toArray,List.getElem?_map,Option.map_eq_some_iff] at hv;obtain ⟨l2,hl2,rfl⟩:=hv;rw [hl] at hl2;injection hl2 with e;subst e;exact ⟨.d (.str _),rfl⟩⟩)
 have et:bq (aN []) 0 (some (au.bL 9 (nI s)))=aN [.bL 9 (nI s)]:=by
  funext i;cases i with
  | zero=>simp [bq,aN]
  | succ i=>simp [bq,aN]
 rw [et] at q1 q2;refine ⟨_,_,_,_,_,rfl,⟨rfl,rfl⟩,?_,q1.objs,q1.bnd,by simp,q3,q2.kp⟩;exact .sl (aM _ _ _) (aO _ _) (.inl rfl) (by simp) (Nat.le_refl _) (fun k e=>by injection e) (fun e=>by cases e)
def Rn:kg:=fun a o=>match a,o with
 | [.d (.str s)],[]=>some (.sl 0 1 0 (Lib.fields s).length (some (Lib.fields s).length),[.bL 9 (nI s)],[Ca s,Nat.ble s.length 1000000])
 | _,_=>none
theorem Oy:bU Tryz.prog 531 Rn:=by
 intro a o r o' c hg hc;unfold Rn at hg;split at hg
 ·rename_i s;simp only [Option.some.injEq,Prod.mk.injEq] at hg;obtain ⟨rfl,rfl,rfl⟩:=hg;have h1:=Nat.le_of_ble_eq_true (hc _ (by simp:Nat.ble s.length 1000000∈[Ca s,Nat.ble s.length 1000000]));exact La s (by omega) (hc _ (by simp))
 ·cases hg
def Oz:DV→DV→Option (DV×List Bool)
 | .str s,.int .u8 c=>some (.int .i64 (Lib.indexByte s c.toNat.toUInt8),[])
 | _,_=>none
theorem Hl:bU Tryz.prog 130 (e2 Oz):=by
 refine lH fun x x2 y c hg hc=>?_;unfold Oz at hg;split at hg
 ·rename_i s b;simp only [Option.some.injEq,Prod.mk.injEq] at hg;obtain ⟨rfl,rfl⟩:=hg;refine nE (args:=[.str s,.int .u8 b]) (us:=[.string ⟨s.toArray⟩,.int .u8 b]) (v:=.int .i64 (Lib.indexByte s b.toNat.toUInt8)) rfl rfl fun w=>?_;refine (Tryz.stringslite_IndexByte ⟨s.toArray⟩ b w).mono ?_
  rintro e w' ⟨rfl,rfl⟩
  exact ⟨rfl,Below.refl _ _⟩
 ·cases hg
def Ro:DV→DV→Option (DV×List Bool)
 | .str s,.str [c]=>some (.int .i64 (Lib.countByte s c),[])
 | _,_=>none
theorem OA:bU Tryz.prog 292 (e2 Ro):=by
 refine lH fun x x2 y c hg hc=>?_;unfold Ro at hg;split at hg
 ·rename_i s b;simp only [Option.some.injEq,Prod.mk.injEq] at hg;obtain ⟨rfl,rfl⟩:=hg;refine nE (args:=[.str s,.str [b]]) (us:=[.string ⟨s.toArray⟩,.string ⟨#[b]⟩]) (v:=.int .i64 (Lib.countByte s b)) rfl rfl fun w=>?_;refine (Tryz.strings_Count_one ⟨s.toArray⟩ b w).mono ?_
  rintro e w' ⟨rfl,rfl⟩
  exact ⟨rfl,Below.refl _ _⟩
 ·cases hg
def Rp:DV→DV→Option (DV×List Bool)
 | .str s,.int .i64 c=>some (.str (Lib.repeatL s c.toNat),[decide (0≤c),decide (c≤1099511627776),decide (s.length*c.toNat≤140737488355328)])
 | _,_=>none
theorem OB:bU Tryz.prog 304 (e2 Rp):=by
 refine lH fun x x2 y c hg hc=>?_;unfold Rp at hg;split at hg
 ·rename_i s n;simp only [Option.some.injEq,Prod.mk.injEq] at hg;obtain ⟨rfl,rfl⟩:=hg;have h0:0≤n:=by simpa using hc (decide (0≤n)) (by simp)
  have h1:n≤1099511627776:=by simpa using hc (decide (n≤1099511627776)) (by simp)
  have h2:s.length*n.toNat≤140737488355328:=by simpa using hc (decide (s.length*n.toNat≤140737488355328)) (by simp)
  refine nE (args:=[.str s,.int .i64 n]) (us:=[.string ⟨s.toArray⟩,.int .i64 n]) (v:=.string ⟨(Lib.repeatL s n.toNat).toArray⟩) rfl rfl fun w=>?_
  have:=Tryz.strings_Repeat ⟨s.toArray⟩ n.toNat w (by omega) h2
  rw [Int.toNat_of_nonneg h0] at this;exact this
 ·cases hg
def YS:DV→DV→Option (DV×List Bool)
 | .str s,.str p=>some (.bool (Lib.hasPrefix s p),[])
 | _,_=>none
theorem Rq:bU Tryz.prog 74 (e2 YS):=by
 refine lH fun x x2 y c hg hc=>?_;unfold YS at hg;split at hg
 ·rename_i s p;simp only [Option.some.injEq,Prod.mk.injEq] at hg;obtain ⟨rfl,rfl⟩:=hg;refine nE (args:=[.str s,.str p]) (us:=[.string ⟨s.toArray⟩,.string ⟨p.toArray⟩]) (v:=.bool (Lib.hasPrefix s p)) rfl rfl fun w=>?_;refine (Tryz.strings_HasPrefix ⟨s.toArray⟩ ⟨p.toArray⟩ w).mono ?_
  rintro e w' ⟨rfl,rfl⟩
  exact ⟨rfl,Below.refl _ _⟩
 ·cases hg
def YT:DV→DV→Option (DV×List Bool)
 | .str s,.str p=>some (.bool (Lib.hasSuffix s p),[Nat.ble s.length 1000000000])
 | _,_=>none
theorem Rt:bU Tryz.prog 75 (e2 YT):=by
 refine lH fun x x2 y c hg hc=>?_;unfold YT at hg;split at hg
 ·rename_i s p;simp only [Option.some.injEq,Prod.mk.injEq] at hg;obtain ⟨rfl,rfl⟩:=hg;have h1:=Nat.le_of_ble_eq_true (hc _ (by simp:Nat.ble s.length 1000000000∈[Nat.ble s.length 1000000000]));refine nE (args:=[.str s,.str p]) (us:=[.string ⟨s.toArray⟩,.string ⟨p.toArray⟩]) (v:=.bool (Lib.hasSuffix s p)) rfl rfl fun w=>?_;have hz:(ByteArray.mk s.toArray).size=s.length:=by simp [ByteArray.size]
  refine (Tryz.strings_HasSuffix ⟨s.toArray⟩ ⟨p.toArray⟩ w (by omega)).mono ?_
  rintro e w' ⟨rfl,rfl⟩
  exact ⟨rfl,Below.refl _ _⟩
 ·cases hg
def YU:DV→DV→Option (DV×List Bool)
 | .str s,.str p=>some (.str (Lib.trimPrefix s p),[])
 | _,_=>none
theorem Ru:bU Tryz.prog 38 (e2 YU):=by
 refine lH fun x x2 y c hg hc=>?_;unfold YU at hg;split at hg
 ·rename_i s p;simp only [Option.some.injEq,Prod.mk.injEq] at hg;obtain ⟨rfl,rfl⟩:=hg;refine nE (args:=[.str s,.str p]) (us:=[.string ⟨s.toArray⟩,.string ⟨p.toArray⟩]) (v:=.string ⟨(Lib.trimPrefix s p).toArray⟩) rfl rfl fun w=>?_;refine (Tryz.strings_TrimPrefix ⟨s.toArray⟩ ⟨p.toArray⟩ w).mono ?_
  rintro e w' ⟨rfl,rfl⟩
  exact ⟨rfl,Below.refl _ _⟩
 ·cases hg
def Yl:DV→DV→Option (DV×List Bool)
 | .str s,.str p=>some (.str (Lib.trimS s p),[Nat.ble s.length 1000000000,Nat.ble p.length 1000,p.all fun b=>decide (b.toNat < 128)])
 | _,_=>none
theorem OC:(Tryz.prog.info? 79).map (fun i=>(i.zero,i.size))=some (some (.agg (Array.replicate 256 (.bool false))),256):=by kernel_rfl
theorem Lb:bU Tryz.prog 21 (e2 Yl):=by
 refine lH fun x x2 y c hg hc=>?_;unfold Yl at hg;split at hg
 ·rename_i s p;simp only [Option.some.injEq,Prod.mk.injEq] at hg;obtain ⟨rfl,rfl⟩:=hg;have h1:=Nat.le_of_ble_eq_true (hc (Nat.ble s.length 1000000000) (by simp));have h2:=Nat.le_of_ble_eq_true (hc (Nat.ble p.length 1000) (by simp));have h3:=hc (p.all fun b=>decide (b.toNat < 128)) (by simp);have z1:(ByteArray.mk s.toArray).size=s.length:=by simp [ByteArray.size]
  have z2:(ByteArray.mk p.toArray).size=p.length:=by simp [ByteArray.size]
  refine nE (args:=[.str s,.str p]) (us:=[.string ⟨s.toArray⟩,.string ⟨p.toArray⟩]) (v:=.string ⟨(Lib.trimS s p).toArray⟩) rfl rfl fun w=>?_
  refine (Any.strings_Trim_laid Tryz.lays160 OC ⟨s.toArray⟩ ⟨p.toArray⟩ w (by omega) (by omega) (fun j b hb=>by
   have hb:p[j]? = some b:=hb
   have:=List.all_eq_true.1 h3 b (List.mem_of_getElem? hb)
   simpa using this)).mono ?_
  rintro e w' ⟨rfl,hw⟩
  exact ⟨rfl,hw⟩
 ·cases hg
def Rv:DV→DV→Option (DV×List Bool)
 | .str s,.str [c]=>some (.bool (decide (0≤Lib.indexByte s c)),[])
 | _,_=>none
theorem Rw:bU Tryz.prog 22 (e2 Rv):=by
 refine lH fun x x2 y c hg hc=>?_;unfold Rv at hg;split at hg
 ·rename_i s b;simp only [Option.some.injEq,Prod.mk.injEq] at hg;obtain ⟨rfl,rfl⟩:=hg;refine nE (args:=[.str s,.str [b]]) (us:=[.string ⟨s.toArray⟩,.string ⟨#[b]⟩]) (v:=.bool (decide (0≤Lib.indexByte s b))) rfl rfl fun w=>?_;refine (Tryz.strings_Contains_one ⟨s.toArray⟩ b w).mono ?_
  rintro e w' ⟨rfl,rfl⟩
  exact ⟨rfl,Below.refl _ _⟩
 ·cases hg
def YV:DV→Option (DV×List Bool)
 | .int .i64 n=>some (.str (Lib.itoa n),[decide (-9223372036854775808≤n),decide (n≤9223372036854775807)])
 | _=>none
theorem Rx:bU Tryz.prog 88 (e1 YV):=by
 refine xP fun x y c hg hc=>?_;unfold YV at hg;split at hg
 ·rename_i n;simp only [Option.some.injEq,Prod.mk.injEq] at hg;obtain ⟨rfl,rfl⟩:=hg;have h1:-9223372036854775808≤n:=of_decide_eq_true (hc (decide (-9223372036854775808≤n)) (by simp));have h2:n≤9223372036854775807:=of_decide_eq_true (hc (decide (n≤9223372036854775807)) (by simp));refine BK (args:=[.int .i64 n]) (us:=[.int .i64 n]) (v:=.string ⟨(Lib.itoa n).toArray⟩) rfl rfl fun κ w hb=>?_;refine (Tryz.strconv_Itoa n h1 h2 w (KZ hb)).mono ?_
  rintro e w' ⟨rfl,k,os,rfl⟩
  exact ⟨rfl,Lib.below_grow _ w (Nat.le_refl _) k os⟩
 ·cases hg
end Go.Proofs.YtjoefbioobdinaaGreatDoor
namespace Go.Am
set_option linter.unusedSectionVars false
open Go.RowKit Go.ChangeShapes Go.WideShapes Go.ChangeAt
variable {P:Program} [Gl]
def fu (P:Program) (t:TypeId):Bool:=match P.underlying t with
 | some (.struct _)=>true
 | some (.array _ _)=>true
 | _=>false
def uM (agg:Bool) (cs:List DV):DV:=bif agg then .agg cs else cs.headD .aD
inductive Ty (P:Program):TypeId→List DV→Prop
 | bool {t:TypeId} (h:P.underlying t=some .bool) (b:Bool):Ty P t [.bool b]
 | int {t:TypeId} {k:IntKind} (h:P.underlying t=some (.int k)) {n:Int} (hw:(Lit.int k n).wf=true):Ty P t [.int k n]
 | str {t:TypeId} (h:P.underlying t=some .string) {s:List UInt8} (hs:s.length≤maxLen):Ty P t [.str s]
 | aL {t e:TypeId} (h:P.underlying t=some (.slice e)) {els:List DV} (hn:els.length≤maxLen)
    (hx:∀x∈els,x=uM (fu P e) x.cells∧x.cells.length=P.cellsOf e) (he:∀x∈els,Ty P e x.cells):Ty P t [.aL (P.cellsOf e) els false]
 | struct {t:TypeId} {fs:Array Field} (h:P.underlying t=some (.struct fs)) {cs:List DV} (hl:cs.length=P.cellsOf t)
    (hf:∀f∈fs,Ty P f.type ((cs.drop f.offset).take (P.cellsOf f.type))):Ty P t cs
def OD (P:Program) (ok:TypeId→Bool):Nat→List Field→Nat→Bool
 | k,[],z=>Nat.beq k z
 | k,f::fs,z=>Nat.beq f.offset k&&ok f.type&&OD P ok (k+P.cellsOf f.type) fs z
def JH (P:Program):Nat→TypeId→Bool
 | 0,_=>false
 | n+1,t=>match P.underlying t with
   | some .bool=>Nat.beq (P.cellsOf t) 1
   | some (.int _)=>Nat.beq (P.cellsOf t) 1
   | some .string=>Nat.beq (P.cellsOf t) 1
   | some (.slice e)=>Nat.beq (P.cellsOf t) 1&&Nat.ble 1 (P.cellsOf e)&&(fu P e||Nat.beq (P.cellsOf e) 1)&&JH P n e
   | some (.struct fs)=>OD P (JH P n) 0 fs.toList (P.cellsOf t)
   | _=>false
theorem sU {α β:Type} {f:α→Option β}:∀{l:List α} {r:List β},l.mapM f=some r→r.length=l.length∧∀(i:Nat) (x:α) (y:β),l[i]? = some x→r[i]? = some y→f x=some y
 | [],r,h=>by simp at h;subst h;simp
 | x::l,r,h=>by
   rw [List.mapM_cons] at h;cases hx:f x with
   | none=>simp [hx] at h
   | some y=>
     cases hl:l.mapM f with
     | none=>simp [hx,hl] at h
     | some q=>
       simp [hx,hl] at h;subst h;obtain ⟨g1,g2⟩:=sU hl;refine ⟨by simp [g1],fun i a b ha hb=>?_⟩;cases i with
       | zero=>simp at ha hb;subst ha;subst hb;exact hx
       | succ i=>exact g2 i a b (by simpa using ha) (by simpa using hb)
def Lc (κ:bn) (h:Heap) (xs:List DV) (cs:List Value):Prop:=
 xs.length=cs.length∧(∀y∈xs,y.gP=true)∧∀(i:Nat) (x:DV) (v:Value),xs[i]? = some x→cs[i]? = some v→DR κ h x v
theorem Lc.one {κ:bn} {h:Heap} {x:DV} {v:Value} (hs:x.gP=true) (r:DR κ h x v):Lc κ h [x] [v]:=
 ⟨rfl,by simp [hs],fun i x' v' hx hv=>by
   cases i with
   | zero=>simp at hx hv;subst hx;subst hv;exact r
   | succ i=>simp at hx⟩
theorem Lc.append {κ:bn} {h:Heap} {xs ys:List DV} {cs ds:List Value} (a:Lc κ h xs cs) (b:Lc κ h ys ds):Lc κ h (xs++ys) (cs++ds):=by
 refine ⟨by simp [a.1,b.1],fun y hy=>?_,fun i x v hx hv=>?_⟩
 ·rcases List.mem_append.1 hy with hy | hy
  ·exact a.2.1 y hy
  ·exact b.2.1 y hy
 ·by_cases hi:i < xs.length
  ·rw [List.getElem?_append_left hi] at hx;rw [List.getElem?_append_left (by have:=a.1;omega)] at hv;exact a.2.2 i x v hx hv
  ·rw [List.getElem?_append_right (by omega)] at hx;rw [List.getElem?_append_right (by have:=a.1;omega),←a.1] at hv;exact b.2.2 _ x v hx hv
def κ0 (w:World):bn:=fun b=>if b < w.heap.size then .dA else .kr
theorem zZ {w:World} {base:Nat} {a:Addr} {n:Nat} {cs:List Value} (h:w.cells? base a n=some cs):base≤a.block∧cs.length=n∧∀j,j < n→w.cell? (a.add j)=cs[j]?:=by
 unfold World.cells? at h;split at h
 ·rename_i hb;obtain ⟨g1,g2⟩:=sU h;simp at g1;refine ⟨hb,g1,fun j hj=>?_⟩;have e:cs[j]? = some cs[j]:=by simp [show j < cs.length by omega]
  have:=g2 j j cs[j] (by simp [hj]) e
  rw [this,e]
 ·cases h
section
variable {H:Type} {enc:TypeId×Value→H} {w:World}
theorem FI {agg:Bool} {cs:List DV} (hs:∀y∈cs,y.gP=true) (h:agg=true∨cs.length=1):(uM agg cs).cells=cs:=by
 cases agg with
 | true=>rfl
 | false=>
   have hl:cs.length=1:=by rcases h with h | h;cases h;exact h
   match cs,hl with
   | [x],_=>
     have:=hs x (by simp)
     show x.cells=[x]
     cases x<;>first | rfl | (simp [DV.gP] at this)
theorem Ho {w:World} {b:Nat} {o:Obj} (e:w.heap[b]? = some o):b < w.heap.size:=by
 rcases Nat.lt_or_ge b w.heap.size with h' | h'
 ·exact h'
 ·rw [Array.getElem?_eq_none h'] at e;simp at e
theorem I6 {w:World} {a:Addr} {v:Value} (h:w.cell? a=some v):a.spot=none∧∃c ty fz,w.heap[a.block]? = some (.cells c ty fz)∧c[a.off]? = some v:=by
 unfold World.cell? at h;cases hb:w.heap[a.block]? with
 | none=>rw [hb] at h;simp at h
 | some o=>
   rw [hb] at h;cases o<;>simp at h
   rename_i c ty fz;exact ⟨h.1,c,ty,fz,rfl,h.2⟩
theorem trod_slice {t e:TypeId} {fuel:Nat} (ht:P.underlying t=some (.slice e)) (hc1:1≤P.cellsOf e) (hagg:fu P e=true∨P.cellsOf e=1)
 (ih:∀(cs:List Value) (x:DataW H×List MemPlace),DataW.trod enc P w 0 (fun _=>true) true fuel e cs=some x→∃xs,xs.length=P.cellsOf e∧Lc (κ0 w) w.heap xs cs∧Ty P e xs)
 {cs:List Value} {x:DataW H×List MemPlace} (h:DataW.trod enc P w 0 (fun _=>true) true (fuel+1) t cs=some x):∃xs,xs.length=1∧Lc (κ0 w) w.heap xs cs∧Ty P t xs:=by
 unfold DataW.trod at h;rw [ht] at h
 match cs,h with
 | [.slice none 0 0],_=>exact ⟨[.aL (P.cellsOf e) [] false],rfl,.one rfl (.iD (fun h=>by cases h)),.aL ht (by simp) (by simp) (by simp)⟩
 | [.slice (some a) len cap],h=>
   simp only at h;split at h
   ·rename_i hcond;simp only [if_true,Option.bind_eq_some_iff,Option.map_eq_some_iff] at h;obtain ⟨elems,he,rest,hr,_⟩:=h;obtain ⟨e1,e2⟩:=sU he;obtain ⟨r1,r2⟩:=sU hr;simp only [List.length_range] at e1 r1
    have elem:∀i,i < cap→∃cs' x',w.cells? 0 (a.add (i*P.cellsOf e)) (P.cellsOf e)=some cs'∧DataW.trod enc P w 0 (fun _=>true) true fuel e cs'=some x':=by
     intro i hi;by_cases hl:i < len
     ·have q:elems[i]? = some elems[i]:=by simp [show i < elems.length by omega]
      have:=e2 i i _ (by simp [hl]) q
      simp only [Option.bind_eq_some_iff] at this;obtain ⟨c,h1,h2⟩:=this;exact ⟨c,_,h1,h2⟩
     ·have q:rest[i-len]? = some rest[i-len]:=by simp [show i-len < rest.length by omega]
      have:=r2 (i-len) (i-len) _ (List.getElem?_range (by omega)) q
      simp only [Option.bind_eq_some_iff] at this;obtain ⟨c,h1,h2⟩:=this;rw [show len+(i-len)=i by omega] at h1;exact ⟨c,_,h1,h2⟩
    by_cases hl0:len=0
    ·subst hl0;exact ⟨[.aL (P.cellsOf e) [] false],rfl,.one rfl (.iD (fun h=>by cases h)),.aL ht (by simp) (by simp) (by simp)⟩
    ·
     have hcap:0 < cap:=by omega
     obtain ⟨c0,x0,g0,_⟩:=elem 0 hcap;obtain ⟨_,gl,gj⟩:=zZ g0;have YW:=gj 0 (by omega)
     have:c0[0]? = some c0[0]:=by simp [show 0 < c0.length by omega]
     rw [this] at YW;have ha0:(a.add (0*P.cellsOf e)).add 0=a:=by simp [Addr.add]
     rw [ha0] at YW;obtain ⟨hsp,c,ty,fz,hb,_⟩:=I6 YW;obtain ⟨b,off,sp⟩:=a;simp only at hsp hb;subst hsp;have addr:∀i j,((⟨b,off,none⟩:Addr).add (i*P.cellsOf e)).add j=⟨b,off+i*P.cellsOf e+j,none⟩:=fun i j=>by rw [gy,gy]
     have cellAt:∀i,i < cap→∀cs',w.cells? 0 ((⟨b,off,none⟩:Addr).add (i*P.cellsOf e)) (P.cellsOf e)=some cs'→cs'.length=P.cellsOf e∧∀j,j < P.cellsOf e→c[off+i*P.cellsOf e+j]? = cs'[j]?:=by
      intro i _ cs' h';obtain ⟨_,k1,k2⟩:=zZ h';refine ⟨k1,fun j hj=>?_⟩
      have:=k2 j hj
      rw [addr,oW hb] at this;exact this
     have hsize:off+cap*P.cellsOf e≤c.size:=by
      obtain ⟨cs',_,h1,_⟩:=elem (cap-1) (by omega);obtain ⟨k1,k2⟩:=cellAt (cap-1) (by omega) cs' h1
      have:=k2 (P.cellsOf e-1) (by omega)
      have q:cs'[P.cellsOf e-1]? = some cs'[P.cellsOf e-1]:=by simp [show P.cellsOf e-1 < cs'.length by omega]
      rw [q] at this
      have:=(Array.getElem?_eq_some_iff.1 this).1
      have e3:cap*P.cellsOf e=(cap-1)*P.cellsOf e+P.cellsOf e:=by
       conv=>lhs;rw [show cap=(cap-1)+1 by omega,Nat.add_mul,Nat.one_mul]
      omega
     have ex:∀i,∃xs:List DV,i < cap→xs.length=P.cellsOf e∧Ty P e xs∧(∀y∈xs,y.gP=true)∧∀(j:Nat) (y:DV) (v:Value),xs[j]? = some y→c[off+i*P.cellsOf e+j]? = some v→DR (κ0 w) w.heap y v:=by
      intro i;by_cases hi:i < cap
      ·obtain ⟨cs',x',h1,h2⟩:=elem i hi;obtain ⟨xs,hx1,hx2,hx3⟩:=ih cs' x' h2;obtain ⟨k1,k2⟩:=cellAt i hi cs' h1;refine ⟨xs,fun _=>⟨hx1,hx3,hx2.2.1,fun j y v hy hv=>?_⟩⟩;have hj:j < P.cellsOf e:=by have:=(List.getElem?_eq_some_iff.1 hy).1;omega
       rw [k2 j hj] at hv;exact hx2.2.2 j y v hy hv
      ·exact ⟨[],fun h=>absurd h hi⟩
     obtain ⟨F,hF⟩:=Classical.axiomOfChoice ex;have hcells:∀i,i < cap→(uM (fu P e) (F i)).cells=F i:=fun i hi=>FI (hF i hi).2.2.1 (by rcases hagg with h | h;exact .inl h;exact .inr (by rw [(hF i hi).1,h]))
     have mem:∀x∈(List.range len).map (fun i=>uM (fu P e) (F i)),∃i,i < len∧x=uM (fu P e) (F i):=by
      intro x hx;obtain ⟨i,hi,rfl⟩:=List.mem_map.1 hx;exact ⟨i,by simpa using hi,rfl⟩
     have hlen:((List.range len).map (fun i=>uM (fu P e) (F i))).length=len:=by simp
     refine ⟨[.aL (P.cellsOf e) ((List.range len).map (fun i=>uM (fu P e) (F i))) false],rfl,.one rfl ?_,.aL ht (by rw [hlen];omega) (fun x hx=>?_) (fun x hx=>?_)⟩
     ·have:=DR.aL (κ:=κ0 w) (h:=w.heap) (sz:=P.cellsOf e) (els:=(List.range len).map (fun i=>uM (fu P e) (F i))) (full:=false) (b:=b) (off:=off) (cap:=cap) (c:=c) (ty:=ty) (fz:=fz)
       (by simp [κ0,Ho hb]) hb (fun h=>by cases h) (by rw [hlen];omega) hsize (fun x hx=>by
         obtain ⟨i,hi,rfl⟩:=mem x hx;rw [hcells i (by omega)];exact ⟨(hF i (by omega)).1,(hF i (by omega)).2.2.1⟩) (fun i x j y v hx hy hv=>by
         have hi:i < len:=by have:=(List.getElem?_eq_some_iff.1 hx).1;rw [hlen] at this;exact this
         simp [hi] at hx;subst hx;rw [hcells i (by omega)] at hy;exact (hF i (by omega)).2.2.2 j y v hy hv)
      rw [hlen] at this;exact this
     ·obtain ⟨i,hi,rfl⟩:=mem x hx;rw [hcells i (by omega)];exact ⟨rfl,(hF i (by omega)).1⟩
     ·obtain ⟨i,hi,rfl⟩:=mem x hx;rw [hcells i (by omega)];exact (hF i (by omega)).2.1
   ·cases h
theorem vJ {ok:TypeId→Bool} {g:TypeId→List Value→Option (DataW H×List MemPlace)}
 (ih:∀t,ok t=true→∀cs x,g t cs=some x→∃xs,xs.length=P.cellsOf t∧Lc (κ0 w) w.heap xs cs∧Ty P t xs) :
 ∀(fs:List Field) (k z:Nat) (cs:List Value),OD P ok k fs z=true→cs.length=z→k≤z→(∀f∈fs,∃x,g f.type ((cs.drop f.offset).take (P.cellsOf f.type))=some x)→
 ∃xs,k+xs.length=z∧Lc (κ0 w) w.heap xs (cs.drop k)∧∀f∈fs,k≤f.offset∧Ty P f.type ((xs.drop (f.offset-k)).take (P.cellsOf f.type))
 | [],k,z,cs,h,hl,_,_=>by
   have:=bQ h
   subst this;refine ⟨[],by simp,?_,by simp⟩;rw [List.drop_of_length_le (by omega)];exact ⟨rfl,by simp,by simp⟩
 | f::fs,k,z,cs,h,hl,hk,hg=>by
   simp only [OD,Bool.and_eq_true] at h;have hoff:=bQ h.1.1;obtain ⟨x,hx⟩:=hg f (by simp);obtain ⟨ys,y1,y2,y3⟩:=ih f.type h.1.2 _ _ hx;rw [hoff] at y2
   have hlen:k+P.cellsOf f.type≤z:=by
    have:=y2.1
    simp at this;omega
   obtain ⟨xs,x1,x2,x3⟩:=vJ ih fs (k+P.cellsOf f.type) z cs h.2 hl hlen (fun q hq=>hg q (by simp [hq]));refine ⟨ys++xs,by simp;omega,?_,fun q hq=>?_⟩
   ·have:=y2.append x2
    rw [←List.drop_drop,List.take_append_drop] at this;exact this
   ·rcases List.mem_cons.1 hq with rfl | hq
    ·refine ⟨by omega,?_⟩;rw [show q.offset-k=0 by omega,List.drop_zero,List.take_left' y1];exact y3
    ·obtain ⟨q1,q2⟩:=x3 q hq;refine ⟨by omega,?_⟩;rw [show q.offset-k=ys.length+(q.offset-(k+P.cellsOf f.type)) by omega,List.drop_append];rw [List.drop_of_length_le (by omega),List.nil_append,show ys.length+(q.offset-(k+P.cellsOf f.type))-ys.length=q.offset-(k+P.cellsOf f.type) by omega];exact q2
theorem Cc:∀(n:Nat) (t:TypeId),JH P n t=true→∀(fuel:Nat) (cs:List Value) (x:DataW H×List MemPlace),DataW.trod enc P w 0 (fun _=>true) true fuel t cs=some x→
 ∃xs,xs.length=P.cellsOf t∧Lc (κ0 w) w.heap xs cs∧Ty P t xs
 | 0,_,h=>by simp [JH] at h
 | n+1,t,h=>by
   intro fuel cs x hx;simp only [JH] at h;split at h
   ·rename_i ht;obtain ⟨b,rfl,_⟩:=DataW.trod_bool ht hx;exact ⟨[.bool b],(bQ h).symm,.one rfl (.bool b),.bool ht b⟩
   ·rename_i k ht;obtain ⟨i,rfl,_,hw⟩:=DataW.trod_int ht hx;exact ⟨[.int k i],(bQ h).symm,.one rfl (.int k i),.int ht hw⟩
   ·rename_i ht;obtain ⟨s,rfl,_,hs⟩:=DataW.trod_string ht hx;refine ⟨[.str s.data.toList],(bQ h).symm,.one rfl ?_,.str ht (by simpa using hs)⟩;exact .str s.data.toList
   ·rename_i e ht;simp only [Bool.and_eq_true,Bool.or_eq_true] at h;cases fuel with
    | zero=>simp [DataW.trod] at hx
    | succ fuel=>
      obtain ⟨xs,h1,h2⟩:=trod_slice ht (Nat.le_of_ble_eq_true h.1.1.2) (h.1.2.imp id bQ) (fun cs x hx=>Cc n e h.2 fuel cs x hx) hx;exact ⟨xs,by rw [h1,bQ h.1.1.1],h2⟩
   ·rename_i fs ht;obtain ⟨xs,m,rfl,_,hl,hsz,hi⟩:=DataW.trod_struct ht hx
    obtain ⟨ys,y1,y2,y3⟩:=vJ (g:=fun t cs=>DataW.trod enc P w 0 (fun _=>true) true m t cs) (ok:=JH P n) (fun t ht cs x hx=>Cc n t ht m cs x hx) fs.toList 0 (P.cellsOf t) cs h hl (by omega) (fun f hf=>by
     obtain ⟨i,hi'⟩:=List.mem_iff_getElem?.1 hf;have q:=hi i f (by simpa using hi');have hlt:i < fs.size:=by have:=(List.getElem?_eq_some_iff.1 hi').1;simpa using this
     have:xs[i]? = some xs[i]:=by simp [show i < xs.length by omega]
     rw [this] at q;exact ⟨_,q⟩)
    refine ⟨ys,by omega,by simpa using y2,.struct ht (by omega) (fun f hf=>?_)⟩
    have:=(y3 f (by simpa using hf)).2
    simpa using this
   ·cases h
theorem OE {n:Nat} {t:TypeId} (hok:JH P n t=true) {v:Value} {d:DataW H} {ps:List MemPlace}
 (hv:fu P t=true→∃cs,v = .agg cs) (hv1:fu P t=false→∀cs,v≠.agg cs) (h:DataW.Trod enc P w 0 (fun _=>true) true t v d ps) :
 ∃xs,DR (κ0 w) w.heap (uM (fu P t) xs) v∧Ty P t xs:=by
 obtain ⟨fuel,h⟩:=h;obtain ⟨xs,h1,h2,h3⟩:=Cc n t hok fuel _ _ h;refine ⟨xs,?_,h3⟩;cases ha:fu P t with
 | true=>
   obtain ⟨cs,rfl⟩:=hv ha
   show DR _ _ (.agg xs) _
   refine .agg ?_ h2.2.1 (fun i x v hx hv=>h2.2.2 i x v hx (by simpa [Value.cells] using hv))
   have:=h2.1;simp [Value.cells] at this;omega
 | false=>
   have hc:v.cells.toList=[v]:=by
    have:=hv1 ha
    cases v<;>first | rfl | exact absurd rfl (this _)
   rw [hc] at h2;have hl:xs.length=1:=h2.1
   match xs,hl with
   | [x],_=>exact h2.2.2 0 x v rfl rfl
theorem D5 {n:Nat} {t:TypeId} (hok:JH P n t=true) {W:World} {base:Nat} {v:Value} (h:Value.okWide P W .any base t v) :
 (fu P t=true→∃cs,v = .agg cs)∧(fu P t=false→∀cs,v≠.agg cs):=by
 cases n with
 | zero=>simp [JH] at hok
 | succ n=>
   simp only [JH] at hok;unfold Value.okWide at h;split at hok<;>rename_i ht
   all_goals first | (cases hok;done) | skip
   all_goals (rw [ht] at h;simp only at h)
   all_goals first
    | (refine ⟨fun ha=>by simp [fu,ht] at ha,fun _ cs e=>?_⟩;subst e;simp [Cell.okWide,Cell.ok,ht] at h;done)
    | (obtain ⟨cs,rfl,_⟩:=h;exact ⟨fun _=>⟨cs,rfl⟩,fun ha=>by simp [fu,ht] at ha⟩)
theorem I7 {W W' : World} (hh:∀b,b < W.heap.size→W'.heap[b]? = W.heap[b]?) {p:MemPlace} (hp:p.block < W.heap.size):W.sameAt W' p:=by
 cases p with
 | cell b off=>simp only [World.sameAt,World.cell?];rw [hh b hp]
 | map b=>exact hh b hp
theorem FJ {W W' : World} (hh:∀b,b < W.heap.size→W'.heap[b]? = W.heap[b]?) (h1:W'.os=W.os) (h2:W'.output=W.output) (may:MemPlace→Prop):W.keptBut W' may:=by
 refine ⟨h1,h2,fun i hi=>?_⟩;rw [hh i hi];cases W.heap[i]? with
 | none=>rfl
 | some o=>cases o<;>first | exact ⟨rfl,rfl,rfl,fun _ _=>rfl⟩ | exact .inr ⟨rfl,rfl⟩ | rfl
theorem qO {W W' : World} (hl:laidOutB P=true) (hh:∀b,b < W.heap.size→W'.heap[b]? = W.heap[b]?) {sp:Nat→Bool} (hsp:∀b,b < W.heap.size→sp b=true):∀{ts:List TypeId} {vs:List Value} {ds:List (DataW H)} {ps:List MemPlace},
 (∀t∈ts,P.readableRec t=true∧t < P.types.size)→(∀p∈ps,p.block < W.heap.size)→DataW.TrodAll enc P W 0 (fun _=>true) true ts vs ds ps→DataW.TrodAll enc P W' 0 sp true ts vs ds ps
 | [],[],[],_,_,_,h=>h
 | t::ts,v::vs,d::ds,ps,hr,hp,h=>by
   obtain ⟨p,q,h1,h2,rfl⟩:=h;refine ⟨p,q,WideElems.Trod_stays hl (hr t (by simp)).1 (hr t (by simp)).2 h1 (fun x hx=>I7 hh (hp x (by simp [hx]))) (fun x hx=>hsp _ (hp x (by simp [hx]))),?_,rfl⟩;exact qO hl hh hsp (fun t ht=>hr t (by simp [ht])) (fun x hx=>hp x (by simp [hx])) h2
def YX (P:Program):List TypeId→List (List DV)→Prop
 | [],[]=>True
 | t::ts,x::xs=>Ty P t x∧YX P ts xs
 | _,_=>False
def nJ (P:Program):List TypeId→List (List DV)→List DV
 | t::ts,x::xs=>uM (fu P t) x::nJ P ts xs
 | _,_=>[]
theorem vK {W:World} {n base:Nat}:∀{ts:List TypeId} {vs:List Value} {ds:List (DataW H)} {ps:List MemPlace},(∀t∈ts,JH P n t=true)→
 (∀(j:Nat) t v,ts[j]? = some t→vs[j]? = some v→Value.okWide P W .any base t v)→DataW.TrodAll enc P W 0 (fun _=>true) true ts vs ds ps→
 ∃xss,YX P ts xss∧ds.length=ts.length∧vs.length=(nJ P ts xss).length∧∀(i:Nat) (x:DV) (v:Value),(nJ P ts xss)[i]? = some x→vs[i]? = some v→DR (κ0 W) W.heap x v
 | [],[],[],_,_,_,_=>⟨[],trivial,rfl,rfl,by simp [nJ]⟩
 | t::ts,v::vs,d::ds,ps,hok,hval,h=>by
   obtain ⟨p,q,h1,h2,rfl⟩:=h;obtain ⟨f1,f2⟩:=D5 (hok t (by simp)) (hval 0 t v rfl rfl);obtain ⟨xs,x1,x2⟩:=OE (hok t (by simp)) f1 f2 h1;obtain ⟨xss,y1,y2,y3,y4⟩:=vK (fun t ht=>hok t (by simp [ht])) (fun j t v ht hv=>hval (j+1) t v (by simpa using ht) (by simpa using hv)) h2;refine ⟨xs::xss,⟨x2,y1⟩,by simp [y2],by simp [nJ,y3],fun i x u hx hu=>?_⟩;cases i with
   | zero=>simp [nJ] at hx hu;subst hx;subst hu;exact x1
   | succ i=>exact y4 i x u (by simpa [nJ] using hx) (by simpa using hu)
theorem Ld {f:FuncId} {fn:Func} {s:ChangeSpec} {apart fresh handsOn:Bool} {tb:TypeId} (n:Nat) (hl:laidOutB P=true) (hvars:s.vars=[])
 (hres:fn.resultTypes = #[tb]) (htb:P.underlying tb=some .bool) (hread:∀t∈fn.params.toList,P.readableRec t=true∧t < P.types.size) (hok:∀t∈fn.params.toList,JH P n t=true)
 (hs:∀ds:List (DataW H),ds.length=fn.params.size→s.fn H ds = { results:=[.lit (.bool true)],args:=ds })
 (hC:∀xss,YX P fn.params.toList xss→C P f ((nJ P fn.params.toList xss).map .d) [] (fun r o=>r = .d (.bool true)∧o=[]))
 (W:World) (base:Nat) (args:Array Value) (ds gs:List (DataW H)) (before:List MemPlace)
 (hgl:∀p∈Gl.gl,∃c ty fz,W.heap[p.1]? = some (.cells c ty fz)∧p.2 c)
 (hval:∀(j:Nat) t v,fn.params[j]? = some t→args[j]? = some v→Value.okWide P W .any base t v)
 (hW:DataW.Whole enc P fn.params.toList s.vars apart W args.toList ds gs before) :
 Calls P f args W fun e W'=>∃v,e = .returned v∧s.post enc P fn apart fresh handsOn false W args v W':=by
 have hW':=hW;obtain ⟨p,q,hA,hV,hb,hfz,hnd⟩:=hW;rw [hvars] at hV;obtain ⟨rfl,rfl⟩:=trodVars_none hV;obtain ⟨xss,y1,y2,y3,y4⟩:=vK (n:=n) (base:=base) hok (fun j t v ht hv=>hval j t v (by simpa using ht) (by simpa using hv)) hA;have hlt:∀x∈p,x.block < W.heap.size:=fun x hx=>DataW.TrodAll.lt hA x hx
 refine (hC xss y1 (κ0 W) (fun _=>.un) W args (fun i=>by rw [KC];rfl) ⟨fun b hb=>by
  by_cases h:b < W.heap.size
  ·exact h
  ·simp [κ0,h] at hb,fun p hp=>⟨.inr (by obtain ⟨c,ty,fz,h,_⟩:=hgl p hp;simp [κ0,Ho h]),hgl p hp⟩⟩ (by simpa using y3) (fun i x v hx hv=>?_)).mono ?_
 ·simp only [List.getElem?_map,Option.map_eq_some_iff] at hx;obtain ⟨y,hy,rfl⟩:=hx;exact .d (y4 i y v hy (by simpa using hv))
 ·rintro e W' ⟨v,r,o,κ',φ',rfl,⟨rfl,rfl⟩,hr,_,_,_,F,_⟩
  have hh:∀b,b < W.heap.size→W'.heap[b]? = W.heap[b]?:=fun b hb=>(F.dA b (by simp [κ0,hb])).2;have hv:v = .bool true:=by cases hr with | d h=>cases h;rfl
  subst hv;have hds:s.fn H (ds++[]) = { results:=[.lit (.bool true)],args:=ds }:=by rw [List.append_nil];exact hs ds (by rw [y2];simp)
  refine ⟨_,rfl,ds,[],before,[],p,[],hW',?_,?_,?_,FJ hh F.os F.out _,fun h=>by cases h⟩
  ·rw [hds,hres];exact trodAll_cons_mk (shut_bool htb _) trodAll_mk0
  ·rw [hds];exact qO hl hh (fun b hb=>by simpa using hb) hread hlt hA
  ·rw [hds,hvars];rfl
end
theorem Ty.Lf {t:TypeId} {xs:List DV} (hu:P.underlying t=some .bool) (h:Ty P t xs):∃b,xs=[.bool b]:=by
 cases h with
 | bool h b=>exact ⟨_,rfl⟩
 | int h=>rw [hu] at h;cases h
 | str h=>rw [hu] at h;cases h
 | aL h=>rw [hu] at h;cases h
 | struct h=>rw [hu] at h;cases h
theorem Ty.sV {t:TypeId} {k:IntKind} {xs:List DV} (hu:P.underlying t=some (.int k)) (h:Ty P t xs):∃n,xs=[.int k n]∧(Lit.int k n).wf=true:=by
 cases h with
 | int h hw=>rw [hu] at h;injection h with h;injection h with h;subst h;exact ⟨_,rfl,hw⟩
 | bool h=>rw [hu] at h;cases h
 | str h=>rw [hu] at h;cases h
 | aL h=>rw [hu] at h;cases h
 | struct h=>rw [hu] at h;cases h
theorem Ty.Hq {t:TypeId} {xs:List DV} (hu:P.underlying t=some .string) (h:Ty P t xs):∃s,xs=[.str s]∧s.length≤maxLen:=by
 cases h with
 | str h hs=>exact ⟨_,rfl,hs⟩
 | bool h=>rw [hu] at h;cases h
 | int h=>rw [hu] at h;cases h
 | aL h=>rw [hu] at h;cases h
 | struct h=>rw [hu] at h;cases h
theorem Ty.OG {t e:TypeId} {xs:List DV} (hu:P.underlying t=some (.slice e)) (h:Ty P t xs) :
 ∃els,xs=[.aL (P.cellsOf e) els false]∧els.length≤maxLen∧∀x∈els,x=uM (fu P e) x.cells∧x.cells.length=P.cellsOf e∧Ty P e x.cells:=by
 cases h with
 | aL h hn hx he=>rw [hu] at h;injection h with h;injection h with h;subst h;exact ⟨_,rfl,hn,fun x q=>⟨(hx x q).1,(hx x q).2,he x q⟩⟩
 | bool h=>rw [hu] at h;cases h
 | int h=>rw [hu] at h;cases h
 | str h=>rw [hu] at h;cases h
 | struct h=>rw [hu] at h;cases h
theorem Ty.FK {t:TypeId} {fs:Array Field} {xs:List DV} (hu:P.underlying t=some (.struct fs)) (h:Ty P t xs) :
 xs.length=P.cellsOf t∧∀(i:Nat) (f:Field),fs[i]? = some f→Ty P f.type ((xs.drop f.offset).take (P.cellsOf f.type)):=by
 cases h with
 | struct h hl hf=>rw [hu] at h;injection h with h;injection h with h;subst h;exact ⟨hl,fun i f q=>hf f (Array.mem_of_getElem? q)⟩
 | bool h=>rw [hu] at h;cases h
 | int h=>rw [hu] at h;cases h
 | str h=>rw [hu] at h;cases h
 | aL h=>rw [hu] at h;cases h
end Go.Am
namespace Go.Proofs.YtjoefbioobdinaaGreatDoor
open Go.RowKit Am
set_option maxRecDepth 100000
theorem FL:Tryz.prog.follows .mixedOrders=true:=by kernel_rfl
abbrev ak (b:Bool):RV:=.d (.bool b)
abbrev aP (n:Int):RV:=.d (.int .i64 n)
abbrev fZ (n:Int):RV:=.d (.int .u8 n)
abbrev bH (s:List UInt8):RV:=.d (.str s)
abbrev aI (n:Int):DV:=.int .i64 n
abbrev aU (n:Int):DV:=.int .u8 n
abbrev aB (b:Bool):DV:=.bool b
theorem bo (b:Bool):b=true∨b=false:=Bool.eq_false_or_eq_true b
noncomputable abbrev Qm:Nat→Bool:=fun f=>dP Tryz.prog f
noncomputable def bZ (l:List (Nat×kg)):dK:={ E:=Env.of Tryz.prog,K:=DJ l,cK:=fun _=>false,dP:=Qm }
theorem aS {l:List (Nat×kg)} (h:dQ Tryz.prog l):Ok Tryz.prog (bZ l):=⟨⟨rfl,xO h,fun _ h=>h⟩,FL⟩
noncomputable def Hr (l:List (Nat×kg)) (d:Nat):dK:={ E:=Env.of Tryz.prog,K:=layer Tryz.prog (DJ l) (fun _=>false) Qm 4000 0 d,cK:=fun _=>false,dP:=Qm }
theorem oH {l:List (Nat×kg)} (h:dQ Tryz.prog l) (d:Nat):Ok Tryz.prog (Hr l d):=⟨⟨rfl,DK FL (xO h) (fun _ h=>h) d,fun _ h=>h⟩,FL⟩
noncomputable abbrev dS (f:Func):Code:=f.body.getD .skip
abbrev Aa (rs:List ResultVar) (m:Nat) (Q:RV→List au→Prop):bP→Prop:=fun s=>s.df=[]∧∃r bJ c,finish (Env.of Tryz.prog) true m rs s.R s.O=some (r,bJ,c)∧(∀b∈c,b=true)∧Q r bJ
def Ce (g:DV→Option (RV×List Bool)):kg:=fun a o=>match a,o with
 | [.d x],[]=>match g x with
   | some (y,c)=>some (y,[],c)
   | none=>none
 | _,_=>none
theorem oI {f:Nat} {g:DV→Option (RV×List Bool)} (h:∀x y c,g x=some (y,c)→(∀b∈c,b=true)→Go.Am.C Tryz.prog f [.d x] [] (fun r o=>r=y∧o=[])):bU Tryz.prog f (Ce g):=by
 intro a o r o' c hg hc;unfold Ce at hg;split at hg
 ·rename_i x;cases hx:g x with
  | none=>rw [hx] at hg;cases hg
  | some p=>
    obtain ⟨y,c'⟩:=p;rw [hx] at hg;simp only [Option.some.injEq,Prod.mk.injEq] at hg;obtain ⟨rfl,rfl,rfl⟩:=hg;exact h x _ _ hx hc
 ·cases hg
def Vs (g:DV→DV→Option (RV×List Bool)):kg:=fun a o=>match a,o with
 | [.d x,.d x2],[]=>match g x x2 with
   | some (y,c)=>some (y,[],c)
   | none=>none
 | _,_=>none
theorem Lg {f:Nat} {g:DV→DV→Option (RV×List Bool)} (h:∀x x2 y c,g x x2=some (y,c)→(∀b∈c,b=true)→Go.Am.C Tryz.prog f [.d x,.d x2] [] (fun r o=>r=y∧o=[])):bU Tryz.prog f (Vs g):=by
 intro a o r o' c hg hc;unfold Vs at hg;split at hg
 ·rename_i x x2;cases hx:g x x2 with
  | none=>rw [hx] at hg;cases hg
  | some p=>
    obtain ⟨y,c'⟩:=p;rw [hx] at hg;simp only [Option.some.injEq,Prod.mk.injEq] at hg;obtain ⟨rfl,rfl,rfl⟩:=hg;exact h x x2 _ _ hx hc
 ·cases hg
theorem fF (x:Int) (h:-9223372036854775808≤x∧x≤9223372036854775807):IntKind.i64.wrap x=x:=by
 rw [IntKind.wrap_i64];omega
theorem bY {i:Nat} (h:i≤1000000):ji (.d (.int .i64 (IntKind.i64.wrap ((Nat.cast (R:=Int) i)+1)))) (.d (.int .i64 (Nat.cast (R:=Int) (i+1)))):=.of_eq (by rw [fF _ (by omega)];rfl)
theorem OH {i:Nat} (h:i≤1000000):ji (.d (.int .i64 (IntKind.i64.wrap ((Nat.cast (R:=Int) i)+2)))) (.d (.int .i64 (Nat.cast (R:=Int) (i+2)))):=.of_eq (by rw [fF _ (by omega)];rfl)
theorem Ht {s:List UInt8} {i:Nat} {c:UInt8} (h:s[i]? = some c):ji (.d (.int .u8 (((s.getD (Nat.cast (R:=Int) i).toNat 0).toNat:Nat):Int))) (.d (.int .u8 ((c.toNat:Nat):Int))):=.of_eq (by
 rw [Int.toNat_natCast,List.getD,h];rfl)
theorem Qs {i n:Nat} (h:i < n):decide (0≤(Nat.cast (R:=Int) i)∧(Nat.cast (R:=Int) i) < (Nat.cast (R:=Int) n))=true:=decide_eq_true (by omega)
end Go.Proofs.YtjoefbioobdinaaGreatDoor
namespace Go.aR
abbrev W:=List UInt8
def cut:W→W×W×Bool
 | []=>([],[],false)
 | c::r=>if c=32 then ([],r,true) else (c::(cut r).1,(cut r).2.1,(cut r).2.2)
def split:W→List W
 | []=>[[]]
 | c::r=>if c=32 then []::split r else match split r with
   | []=>[[c]]
   | w::l=>(c::w)::l
theorem xX (c:UInt8) (r:W):cut (c::r)=if c=32 then ([],r,true) else (c::(cut r).1,(cut r).2.1,(cut r).2.2):=rfl
theorem D6:∀s:W,(cut s).2.2=true→s=(cut s).1++32::(cut s).2.1
 | [],h=>by simp [cut] at h
 | c::r,h=>by
   rw [xX] at h ⊢;by_cases h0:c=32
   ·simp [h0]
   ·simp only [h0,if_false] at h ⊢;rw [List.cons_append,←D6 r h]
theorem xY:∀s:W,(cut s).2.2=false→(cut s).1=s∧(cut s).2.1=[]
 | [],_=>⟨rfl,rfl⟩
 | c::r,h=>by
   rw [xX] at h ⊢;by_cases h0:c=32
   ·simp [h0] at h
   ·simp only [h0,if_false] at h ⊢;obtain ⟨h1,h2⟩:=xY r h;exact ⟨by rw [h1],h2⟩
inductive Er | ok | text | range
 deriving DecidableEq
def fail (e w:Er):Er:=if e = .text then e else if w = .ok then e else w
inductive Nm | none | range | is (n:Int)
structure Act where
 kind:Int:=0
 node:Int:=0
 n:Int:=0
 at_:Int:=0
 x:Int:=0
 text:W:=[]
 keep:List Bool:=[]
 deriving DecidableEq
structure S where
 e:Er
 ws:List W
def take (s:S):W×S:=match s.ws with
 | []=>([48],{ s with e:=fail s.e .text })
 | w::r=>(w,{ s with ws:=r })
variable (num:W→Nm)
def count (s:S):Int×S:=
 match num (take s).1 with
 | .none=>(0,{ (take s).2 with e:=fail (take s).2.e .text })
 | .range=>(0,{ (take s).2 with e:=fail (take s).2.e .range })
 | .is n=>(n,(take s).2)
def oJ (w:W):Option Int:=if w=[105,111] then some 1 else if w=[115,112,97,99,101] then some 0 else none
def mg (w:W):Bool:=w≠[]&&w.all fun c=>c==43||c==45
def gZ (w:W):List Bool:=w.map fun c=>c==43
def ends (a:Act) (s:S):Act×Er:=
 let e:=if s.ws=[] then s.e else fail s.e .text
 if e = .ok then (a,.ok) else ({},e)
def many:Nat→Nat
 | 2 | 3 | 4 | 5 | 9 | 10 | 12 | 14=>1
 | 6=>3
 | 7 | 8=>2
 | _=>0
end Go.aR
namespace Go.aR
open Go.Lib
def iN (c:UInt8):Bool:=decide (48≤c.toNat)&&decide (c.toNat≤57)
theorem kD {c:UInt8}:iN c=true↔48≤c.toNat∧c.toNat≤57:=by simp [iN]
def val:Nat→List UInt8→Nat
 | a,[]=>a
 | a,c::r=>val (10*a+(c.toNat-48)) r
theorem Cg:∀(l r:List UInt8) (a:Nat),val a (l++r)=val (val a l) r
 | [],_,_=>rfl
 | _::l,r,_=>Cg l r _
theorem Ch:∀(l:List UInt8) (a:Nat),a≤val a l
 | [],a=>Nat.le_refl _
 | c::l,a=>Nat.le_trans (by omega) (Ch l (10*a+(c.toNat-48)))
theorem OI (l:List UInt8):∀a:Nat,a*10 ^ l.length≤val a l:=by
 induction l with
 | nil=>
   intro a;rw [List.length_nil,Nat.pow_zero,Nat.mul_one];exact Nat.le_refl _
 | cons c l ih=>
   intro a;have h:=ih (10*a+(c.toNat-48));rw [List.length_cons,Nat.pow_succ];generalize 10 ^ l.length=q at h ⊢;refine Nat.le_trans ?_ h;have e:a*(q*10)=(10*a)*q:=by rw [Nat.mul_comm q 10,←Nat.mul_assoc,Nat.mul_comm a 10]
   rw [e];exact Nat.mul_le_mul_right q (by omega)
def intOf (s:List UInt8):Option Int:=
 if s.head? = some 45 then
  (if s.tail≠[]∧s.tail.all iN=true∧s.tail.head?≠some 48∧val 0 s.tail≤9223372036854775808 then some (-(val 0 s.tail:Int)) else none)
 else if s≠[]∧s.all iN=true∧(s.head? = some 48→s.length=1)∧val 0 s≤9223372036854775807 then some (val 0 s:Int) else none
theorem Ab (d:List UInt8):intOf (45::d)=(if d≠[]∧d.all iN=true∧d.head?≠some 48∧val 0 d≤9223372036854775808 then some (-(val 0 d:Int)) else none):=by
 unfold intOf;rw [if_pos (show (45::d:List UInt8).head? = some 45 from rfl)]
 rfl
theorem Ac {s:List UInt8} (h:s.head?≠some 45):intOf s=(if s≠[]∧s.all iN=true∧(s.head? = some 48→s.length=1)∧val 0 s≤9223372036854775807 then some (val 0 s:Int) else none):=by
 unfold intOf;rw [if_neg h]
theorem D7 {l r:List UInt8} (h:l≠[]):(l++r).head? = l.head?:=by
 cases l with
 | nil=>exact absurd rfl h
 | cons c l=>rfl
theorem oK {k:Nat} (h:k < 256):(UInt8.ofNat k).toNat=k:=by simp [UInt8.toNat_ofNat'];omega
theorem Lh (u:Nat):decDigits u≠[]∧(decDigits u).all iN=true∧val 0 (decDigits u)=u∧(u≠0→(decDigits u).head?≠some 48)∧(u=0→(decDigits u).length=1):=by
 induction u using Nat.strongRecOn with
 | _ u ih=>
   by_cases h:u < 10
   ·rw [decDigits,dif_pos h];have e:=oK (show 48+u < 256 by omega);refine ⟨by simp,by rw [List.all_cons,List.all_nil,Bool.and_true,kD,e];omega,by show 10*0+((UInt8.ofNat (48+u)).toNat-48)=u;rw [e];omega,fun h0=>?_,fun _=>rfl⟩;simp only [List.head?_cons,ne_eq,Option.some.injEq];intro e2;rw [e2] at e;simp at e;omega
   ·rw [decDigits,dif_neg h];obtain ⟨h1,h2,h3,h4,_⟩:=ih (u / 10) (by omega);have e:=oK (show 48+u % 10 < 256 by omega);refine ⟨by simp,by rw [List.all_append,h2,Bool.true_and,List.all_cons,List.all_nil,Bool.and_true,kD,e];omega,by rw [Cg,h3];show 10*(u / 10)+((UInt8.ofNat (48+u % 10)).toNat-48)=u;rw [e];omega,fun _=>?_,fun h0=>by omega⟩;rw [D7 h1];exact h4 (by omega)
theorem Qt (n:Nat):∀d:List UInt8,d.length=n+1→d.all iN=true→(d.head? = some 48→d.length=1)→decDigits (val 0 d)=d:=by
 induction n with
 | zero=>
   intro d hd ha _;obtain ⟨c,rfl⟩:∃c,d=[c]:=List.length_eq_one_iff.1 hd;simp only [List.all_cons,List.all_nil,Bool.and_true,kD] at ha;have e:val 0 [c]=c.toNat-48:=by show 10*0+(c.toNat-48)=_;omega
   rw [e,decDigits,dif_pos (by omega),show 48+(c.toNat-48)=c.toNat by omega];congr 1;exact UInt8.toNat_inj.1 (oK (UInt8.toNat_lt c))
 | succ n ih=>
   intro d hd ha h0;have hne:d≠[]:=by intro e;simp [e] at hd
   obtain ⟨l,c,rfl⟩:∃l c,d=l++[c]:=⟨d.dropLast,d.getLast hne,(List.dropLast_concat_getLast hne).symm⟩;have hl:l.length=n+1:=by simpa using hd
   have hln:l≠[]:=by intro e;simp [e] at hl
   rw [D7 hln] at h0;have h48:l.head?≠some 48:=fun e=>by have:=h0 e;simp only [List.length_append,List.length_cons,List.length_nil] at this;omega
   simp only [List.all_append,Bool.and_eq_true,List.all_cons,List.all_nil,Bool.and_true,kD] at ha;obtain ⟨hal,hc⟩:=ha
   have hv:1≤val 0 l:=by
    cases l with
    | nil=>exact absurd rfl hln
    | cons b r=>
      simp only [List.head?_cons,ne_eq,Option.some.injEq] at h48;simp only [List.all_cons,Bool.and_eq_true,kD] at hal;have h1:b.toNat≠48:=fun e=>h48 (UInt8.toNat_inj.1 (by simpa using e));exact Nat.le_trans (by omega) (Ch r (10*0+(b.toNat-48)))
   have e:val 0 (l++[c])=10*val 0 l+(c.toNat-48):=by rw [Cg];rfl
   have ihl:=ih l hl hal (fun e=>absurd e h48);rw [e];generalize val 0 l=v at hv ihl ⊢;rw [decDigits,dif_neg (by omega),show (10*v+(c.toNat-48)) / 10=v by omega,show (10*v+(c.toNat-48)) % 10=c.toNat-48 by omega,ihl,show 48+(c.toNat-48)=c.toNat by omega];congr 2;exact UInt8.toNat_inj.1 (oK (UInt8.toNat_lt c))
theorem Wh (l:List UInt8):∀a:Nat,l.all iN=true→val a l < 18446744073709551616→parseUint10 a l = .ok (val a l):=by
 induction l with
 | nil=>intro a _ _;rfl
 | cons c r ih=>
   intro a ha hv;simp only [List.all_cons,Bool.and_eq_true,kD] at ha;have h1:=Ch r (10*a+(c.toNat-48));have e:val a (c::r)=val (10*a+(c.toNat-48)) r:=rfl;rw [e] at hv ⊢;rw [parseUint10,if_pos ha.1,if_neg (by omega),if_neg (by omega),show a*10+(c.toNat-48)=10*a+(c.toNat-48) by omega];exact ih _ ha.2 hv
theorem Qu {l:List UInt8} (h:l≠[]) (ha:l.all iN=true) (hv:val 0 l < 18446744073709551616):parseMag l = .ok (val 0 l):=by
 rw [parseMag,if_neg h];exact Wh l 0 ha hv
theorem FM {n:Int} (hb:-9223372036854775808≤n∧n≤9223372036854775807):intOf (itoa n)=some n:=by
 unfold itoa;by_cases h0:n < 0
 ·rw [if_pos h0];obtain ⟨d1,d2,d3,d4,_⟩:=Lh n.natAbs;rw [Ab,if_pos ⟨d1,d2,d4 (by omega),by rw [d3];omega⟩,d3];congr 1;omega
 ·rw [if_neg h0];obtain ⟨d1,d2,d3,d4,d5⟩:=Lh n.toNat
  have hne:(decDigits n.toNat).head?≠some 45:=by
   intro e;cases hd:decDigits n.toNat with
   | nil=>exact d1 hd
   | cons c r=>
     rw [hd] at e d2;simp only [List.head?_cons,Option.some.injEq] at e;subst e;simp [iN] at d2
  have hc:(decDigits n.toNat).head? = some 48→(decDigits n.toNat).length=1:=fun e=>by
   by_cases e0:n.toNat=0
   ·exact d5 e0
   ·exact absurd e (d4 e0)
  rw [Ac hne,if_pos ⟨d1,d2,hc,by rw [d3];omega⟩,d3];congr 1;omega
theorem mV {s:List UInt8} {n:Int}:intOf s=some n↔atoiAll s = .ok n∧itoa n=s:=by
 constructor
 ·intro h;by_cases h45:s.head? = some 45
  ·obtain ⟨d,rfl⟩:∃d,s=45::d:=by
    cases s with
    | nil=>simp at h45
    | cons c d=>simp at h45;exact ⟨d,by rw [h45]⟩
   rw [Ab] at h;split at h
   ·rename_i hc;obtain ⟨h1,h2,h3,h4⟩:=hc;injection h with h;subst h;have hl:d.length=(d.length-1)+1:=by cases d<;>simp at h1 ⊢
    have hv:1≤val 0 d:=by
     cases d with
     | nil=>exact absurd rfl h1
     | cons b r=>
       simp only [List.head?_cons,ne_eq,Option.some.injEq] at h3;simp only [List.all_cons,Bool.and_eq_true,kD] at h2;have h5:b.toNat≠48:=fun e=>h3 (UInt8.toNat_inj.1 (by simpa using e));exact Nat.le_trans (by omega) (Ch r (10*0+(b.toNat-48)))
    refine ⟨?_,?_⟩
    ·rw [atoiAll_minus,Qu h1 h2 (by omega)];simp only [signed];rw [if_neg (by omega)]
    ·unfold itoa;rw [if_pos (by omega),Int.natAbs_neg,Int.natAbs_natCast,Qt (d.length-1) d hl h2 (fun e=>absurd e h3)]
   ·cases h
  ·rw [Ac h45] at h;split at h
   ·rename_i hc;obtain ⟨h1,h2,h3,h4⟩:=hc;injection h with h;subst h;cases s with
    | nil=>exact absurd rfl h1
    | cons c r=>
      have hd:=h2;simp only [List.all_cons,Bool.and_eq_true,kD] at hd;refine ⟨?_,?_⟩
      ·rw [atoiAll_plain c r (by omega) (by omega),Qu h1 h2 (by omega)];simp only [signless];rw [if_neg (by omega)]
      ·unfold itoa;rw [if_neg (by omega),Int.toNat_natCast,Qt r.length (c::r) (by simp) h2 h3]
   ·cases h
 ·rintro ⟨h1,h2⟩
  have hb:-9223372036854775808≤n∧n≤9223372036854775807:=by
   have h3:parseIntB 64 s = .ok n:=by rw [parseIntB_64];exact h1
   have:=parseIntB_bounds h3
   simp only [show (2:Nat) ^ (64-1)=9223372036854775808 by decide] at this;omega
  subst h2;exact FM hb
def trimmed (s:List UInt8):List UInt8:=trimPrefix s [45]
def ten:List UInt8:=[48,49,50,51,52,53,54,55,56,57]
theorem OJ (c:UInt8):ten.contains c=iN c:=by
 have:∀n:Fin 256,ten.contains (UInt8.ofNat n.val)=iN (UInt8.ofNat n.val):=by decide +kernel
 have h:=this ⟨c.toNat,UInt8.toNat_lt c⟩;simpa using h
theorem dropWhile_nil {p:UInt8→Bool}:∀{l:List UInt8},l.dropWhile p=[]↔l.all p=true
 | []=>by simp
 | c::r=>by
   by_cases h:p c=true
   ·rw [List.dropWhile_cons_of_pos h,List.all_cons,h,Bool.true_and];exact dropWhile_nil
   ·rw [List.dropWhile_cons_of_neg h];simp [h]
theorem D8 {l:List UInt8}:trimS l ten=[]↔l.all iN=true:=by
 have e:(fun c=>ten.contains c)=iN:=funext OJ;unfold trimS trimLeftS trimRightS;rw [e];constructor
 ·intro h;rw [dropWhile_nil,List.all_reverse] at h;rw [←List.all_reverse,←List.takeWhile_append_dropWhile (p:=iN) (l:=l.reverse),List.all_append,h,Bool.and_true];exact List.all_takeWhile
 ·intro h;have h2:l.reverse.dropWhile iN=[]:=dropWhile_nil.2 (by rw [List.all_reverse];exact h);rw [h2];rfl
def jW:List UInt8→Option (List UInt8)
 | []=>some []
 | c::r=>if c=39 then (match r with
    | []=>none
    | d::r=>if d=39 then (jW r).map (39 :: ·) else none)
   else (jW r).map (c :: ·)
def vZ (c:UInt8):Option Nat:=if 48≤c.toNat∧c.toNat≤57 then some (c.toNat-48) else if 97≤c.toNat∧c.toNat≤102 then some (c.toNat-87) else none
def fU:List UInt8→Option (List UInt8)
 | []=>some []
 | [_]=>none
 | a::b::r=>match vZ a,vZ b with
   | some x,some y=>(fU r).map (UInt8.ofNat (16*x+y) :: ·)
   | _,_=>none
abbrev VR:=Int×Int×List UInt8×Int
def Hu (k:Int) (et el:Int):Option (List UInt8)→VR
 | none=>(0,0,[],et)
 | some b=>if b.length≤1000 then (k,0,b,0) else (0,0,[],el)
def Ny:List UInt8:=[78,85,76,76]
def inner (s:List UInt8) (k:Nat):List UInt8:=(s.take (s.length-1)).drop k
def vP (et el:Int) (s:List UInt8):VR:=
 if s=Ny then (0,0,[],0)
 else if hasPrefix s [120,39]=true∧hasSuffix s [39]=true∧2 < s.length then Hu 3 et el (fU (inner s 2))
 else if hasPrefix s [39]=true then Hu 2 et el (if 2≤s.length∧hasSuffix s [39]=true then jW (inner s 1) else none)
 else match intOf s with
  | some n=>(1,n,[],0)
  | none=>(0,0,[],et)
theorem OL {r:List UInt8} {c:UInt8} (h1:c≠45) (h2:iN c=false):intOf (c::r)=none:=by
 unfold intOf;rw [if_neg (by simp [h1]),if_neg (by simp [h2])]
theorem Li (k et el:Int) (hk:k≠1) (he:et≠0) (hl:el≠0) (o:Option (List UInt8)):¬((Hu k et el o).2.2.2=0∧(Hu k et el o).1=1):=by
 cases o with
 | none=>simp [Hu,he]
 | some b=>
   by_cases hb:b.length≤1000
   ·simp [Hu,hb,hk]
   ·simp [Hu,hb,hl]
theorem Wi {et el:Int} (he:et≠0) (hl:el≠0) {s:List UInt8} {n:Int} (h:intOf s=some n):vP et el s=(1,n,[],0):=by
 have ne:∀c r,s=c::r→c≠45→iN c=false→False:=fun c r e h1 h2=>by
  rw [e,OL h1 h2] at h;cases h
 unfold vP;rw [if_neg (fun e:s=Ny=>ne 78 _ e (by decide) (by decide)),if_neg,if_neg,h]
 ·intro hp;cases s with
  | nil=>simp [hasPrefix] at hp
  | cons c r=>
    simp [hasPrefix,List.isPrefixOf] at hp;exact ne c r rfl (by rw [←hp];decide) (by rw [←hp];decide)
 ·rintro ⟨hp,_,_⟩
  cases s with
  | nil=>simp [hasPrefix] at hp
  | cons c r=>
    simp [hasPrefix,List.isPrefixOf] at hp;exact ne c r rfl (by rw [←hp.1];decide) (by rw [←hp.1];decide)
theorem Wj {et el:Int} (he:et≠0) (hl:el≠0) {s:List UInt8} (h:intOf s=none):¬((vP et el s).2.2.2=0∧(vP et el s).1=1):=by
 unfold vP;split
 ·simp
 ·split
  ·exact Li 3 et el (by decide) he hl _
  ·split
   ·exact Li 2 et el (by decide) he hl _
   ·rw [h];simp [he]
def code:Er→Int
 | .ok=>0
 | .text=>6
 | .range=>5
def jX (e w:Int):Int:=if e=6 then e else if w=0 then e else w
def y9 (w:W):Nm:=match intOf w with
 | some n=>.is n
 | none=>if trimmed w=[]∨(trimmed w).head? = some 48∨¬(trimmed w).all iN=true then .none else .range
def Hw (w:W):Int:=match y9 w with
 | .is n=>n
 | _=>0
def JI (w:W):Int:=match y9 w with
 | .is _=>0
 | .none=>6
 | .range=>5
def nR (m:Bool) (r:W):W:=if m then (cut r).1 else [48]
def dM (m:Bool) (r:W):W:=if m then (cut r).2.1 else r
def eu (m:Bool) (r:W):Bool:=if m then (cut r).2.2 else false
def wh (m:Bool) (e:Int):Int:=if m then e else jX e 6
def iG (m:Bool) (r:W):Int:=Hw (nR m r)
def nS (m:Bool) (r:W) (e:Int):Int:=jX (wh m e) (JI (nR m r))
def stop (a:Act) (m:Bool) (e:Int):Act×Int:=if (if m then jX e 6 else e)=0 then (a,0) else ({},if m then jX e 6 else e)
def Ad (k:Nat) (m:Bool) (r:W):Act×Int:=
 let a:Act:={ kind:=k }
 let m1:=eu m r
 let r1:=dM m r
 let e1:=nS m r 0
 let m2:=eu m1 r1
 let r2:=dM m1 r1
 let e2:=nS m1 r1 e1
 match k with
 | 2 | 10=>stop { a with node:=iG m r } m1 e1
 | 3 | 4 | 5 | 12 | 14=>stop { a with n:=iG m r } m1 e1
 | 6=>stop { a with n:=iG m r,at_:=iG m1 r1,x:=iG m2 r2 % 256 } (eu m2 r2) (if iG m2 r2 < 0∨iG m2 r2 > 255 then jX (nS m2 r2 e2) 5 else nS m2 r2 e2)
 | 7=>match oJ (nR m2 r2) with
   | some x=>stop { a with node:=iG m r,n:=iG m1 r1,x:=x } (eu m2 r2) (wh m2 e2)
   | none=>stop { a with node:=iG m r,n:=iG m1 r1 } (eu m2 r2) (jX (wh m2 e2) 6)
 | 8=>stop { a with node:=iG m r,n:=iG m1 r1 } m2 e2
 | 9=>if m1=true then stop { a with node:=iG m r,keep:=gZ (nR m1 r1) } m2 (if mg (nR m1 r1)=true then e1 else jX e1 6) else stop { a with node:=iG m r } m1 e1
 | _=>stop a m 0
def kw:Nat→W
 | 1=>[114,117,110]
 | 2=>[116,105,99,107]
 | 3=>[100,101,108,105,118,101,114]
 | 4=>[100,114,111,112]
 | 5=>[116,119,105,99,101]
 | 6=>[115,112,111,105,108]
 | 7=>[97,114,109]
 | 8=>[112,111,119,101,114]
 | 9=>[99,114,97,115,104]
 | 10=>[99,104,101,99,107,112,111,105,110,116]
 | 11=>[98,97,99,107,117,112]
 | 12=>[115,116,101,112]
 | 13=>[103,97,116,104,101,114]
 | 14=>[114,101,115,116,111,114,101]
 | _=>[]
def kindOf (w:W):Nat:=(((List.range 14).map (· + 1)).find? fun k=>kw k==w).getD 0
theorem uN (w:W):kindOf w≤14:=by
 unfold kindOf;cases h:((List.range 14).map (· + 1)).find? fun k=>kw k==w with
 | none=>simp
 | some k=>
   have:=List.mem_of_find?_eq_some h
   simp only [List.mem_map,List.mem_range] at this;simp only [Option.getD_some];omega
def aG (s:W):Act×Int:=
 match kindOf (cut s).1 with
 | 0=>({},6)
 | 1=>if (cut s).2.2=false∨(10:UInt8)∈(cut s).2.1 then ({},6) else ({ kind:=1,text:=(cut s).2.1 },0)
 | k=>Ad k (cut s).2.2 (cut s).2.1
theorem Ae {w:W} {k:Nat} (h:kindOf w=k) (hk:k≠0):w=kw k:=by
 unfold kindOf at h;cases hf:((List.range 14).map (· + 1)).find? fun k=>kw k==w with
 | none=>rw [hf] at h;exact absurd h.symm hk
 | some j=>
   rw [hf] at h;simp only [Option.getD_some] at h;subst h
   have:=List.find?_some hf
   exact (by simpa using this:kw j=w).symm
abbrev tO (n:Int):Prop:=-9223372036854775808≤n∧n≤9223372036854775807
def nT (l:List Bool):W:=l.map fun b=>if b then 43 else 45
def line (a:Act):W:=
 match a.kind with
 | 1=>kw 1++32::a.text
 | 2=>kw 2++32::itoa a.node
 | 3=>kw 3++32::itoa a.n
 | 4=>kw 4++32::itoa a.n
 | 5=>kw 5++32::itoa a.n
 | 6=>kw 6++32::(itoa a.n++32::(itoa a.at_++32::itoa a.x))
 | 7=>kw 7++32::(itoa a.node++32::(itoa a.n++32::(if a.x % 2=1 then [105,111] else [115,112,97,99,101])))
 | 8=>kw 8++32::(itoa a.node++32::itoa a.n)
 | 9=>kw 9++32::(itoa a.node++(if a.keep=[] then [] else 32::nT a.keep))
 | 10=>kw 10++32::itoa a.node
 | 11=>kw 11
 | 12=>kw 12++32::itoa a.n
 | 13=>kw 13
 | 14=>kw 14++32::itoa a.n
 | _=>[]
def same (a b:Act):Prop:=a.kind=b.kind∧a.node=b.node∧a.n=b.n∧a.at_=b.at_∧a.x=b.x∧a.text=b.text∧nT a.keep=nT b.keep
instance (a b:Act):Decidable (same a b):=by unfold same;infer_instance
theorem Af:∀{a b:List Bool},nT a=nT b→a=b
 | [],[],_=>rfl
 | [],_::_,h=>by simp [nT] at h
 | _::_,[],h=>by simp [nT] at h
 | x::a,y::b,h=>by
   simp only [nT,List.map_cons,List.cons.injEq] at h
   have:=Af (a:=a) (b:=b) h.2
   rw [this];congr 1;cases x<;>cases y<;>simp_all
theorem same_eq {a b:Act}:same a b↔a=b:=by
 constructor
 ·rintro ⟨h1,h2,h3,h4,h5,h6,h7⟩
  cases a;cases b;simp only at h1 h2 h3 h4 h5 h6 h7;rw [h1,h2,h3,h4,h5,h6,Af h7]
 ·rintro rfl
  exact ⟨rfl,rfl,rfl,rfl,rfl,rfl,rfl⟩
def kT (a:Act):W×Int:=if (aG (line a)).2=0∧same a (aG (line a)).1 then (line a,0) else ([],2)
def part (a:Act):Act:=
 match a.kind with
 | 1=>{ kind:=1,text:=a.text }
 | 2=>{ kind:=2,node:=a.node }
 | 3=>{ kind:=3,n:=a.n }
 | 4=>{ kind:=4,n:=a.n }
 | 5=>{ kind:=5,n:=a.n }
 | 6=>{ kind:=6,n:=a.n,at_:=a.at_,x:=a.x }
 | 7=>{ kind:=7,node:=a.node,n:=a.n,x:=a.x % 2 }
 | 8=>{ kind:=8,node:=a.node,n:=a.n }
 | 9=>{ kind:=9,node:=a.node,keep:=a.keep }
 | 10=>{ kind:=10,node:=a.node }
 | 11=>{ kind:=11 }
 | 12=>{ kind:=12,n:=a.n }
 | 13=>{ kind:=13 }
 | 14=>{ kind:=14,n:=a.n }
 | _=>{}
theorem wI (a:Act):stop a false 0=(a,0):=rfl
theorem Lj {d:W} (h:d≠[]) (ha:d.all iN=true) (h0:d.head?≠some 48):10 ^ (d.length-1)≤val 0 d:=by
 cases d with
 | nil=>exact absurd rfl h
 | cons c r=>
   simp only [List.head?_cons,ne_eq,Option.some.injEq] at h0;simp only [List.all_cons,Bool.and_eq_true,kD] at ha;have h5:c.toNat≠48:=fun e=>h0 (UInt8.toNat_inj.1 (by simpa using e));have h2:=OI r (10*0+(c.toNat-48));have e:val 0 (c::r)=val (10*0+(c.toNat-48)) r:=rfl;rw [e,List.length_cons,Nat.add_sub_cancel];generalize 10 ^ r.length=q at h2 ⊢;refine Nat.le_trans ?_ h2;exact Nat.le_mul_of_pos_left q (by omega)
theorem za (t o:Nat) (ho:o < 10):decDigits (10*t+o)=(if t=0 then [] else decDigits t)++[UInt8.ofNat (48+o)]:=by
 by_cases h:t=0
 ·subst h;rw [if_pos rfl,decDigits,dif_pos (by omega)];simp
 ·rw [if_neg h,decDigits,dif_neg (by omega),show (10*t+o) / 10=t by omega,show (10*t+o) % 10=o by omega]
end Go.aR
