/-
  Texts that the claim leans on: ConLine, ConRef, K2, ConTx, K3, K4, K5, K6, AmNb.
-/
import Derived.Test.YtjoefbioobdinaaGreatDoorProg
import Derived.Test.YtjoefbioobdinaaGreatDoorwh
import Derived.Lib.Bytealg
import Derived.Lib.SlTrimSet
import Derived.Lib.ParseIntBTie
import Derived.Lib.SmallJoins
import Derived.Lib.Hide
import Derived.WalkKit
set_option linter.unusedSimpArgs false
set_option linter.unusedVariables false
namespace Go.ay
open Go.Lib
theorem wZ:∀(w:W) (r:W),(32:UInt8)∉w→cut (w++32::r)=(w,r,true)
 | [],r,_=>by rw [List.nil_append,tZ,if_pos rfl]
 | c::w,r,h=>by
   simp only [List.mem_cons,not_or] at h;rw [List.cons_append,tZ,if_neg (fun e=>h.1 e.symm),wZ w r h.2]
theorem CK:∀(w:W),(32:UInt8)∉w→cut w=(w,[],false)
 | [],_=>rfl
 | c::w,h=>by
   simp only [List.mem_cons,not_or] at h;rw [tZ,if_neg (fun e=>h.1 e.symm),CK w h.2]
theorem yI (u:Nat):(32:UInt8)∉decDigits u:=fun h=>by
 have:=List.all_eq_true.1 (Ij u).2.1 _ h
 simp [iY] at this
theorem bQ (n:Int):(32:UInt8)∉itoa n:=by
 unfold itoa;split
 ·intro h;rcases List.mem_cons.1 h with h | h
  ·cases h
  ·exact yI _ h
 ·exact yI _
abbrev gK (n:Int):Prop:=-9223372036854775808≤n∧n≤9223372036854775807
theorem AJ {n:Int} (h:gK n):CJ (itoa n) = .is n:=by unfold CJ;rw [yH h]
theorem Ez {n:Int} (h:gK n):J2 (itoa n)=n:=by unfold J2;rw [AJ h]
theorem EA {n:Int} (h:gK n):J3 (itoa n)=0:=by unfold J3;rw [AJ h]
def jH (l:List Bool):W:=l.map fun b=>if b then 43 else 45
def line (a:Act):W:=
 match a.kind with
 | 1=>kw 1++32::a.text
 | 2=>kw 2++32::itoa a.node
 | 3=>kw 3++32::itoa a.n
 | 4=>kw 4++32::itoa a.n
 | 5=>kw 5++32::itoa a.n
 | 6=>kw 6++32::(itoa a.n++32::(itoa a.at_++32::itoa a.x))
 | 7=>kw 7++32::(itoa a.node++32::(itoa a.n++32::(if a.x % 2=1 then [105,111] else [115,112,97,99,101])))
 | 8=>kw 8++32::(itoa a.node++32::itoa a.n)
 | 9=>kw 9++32::(itoa a.node++(if a.keep=[] then [] else 32::jH a.keep))
 | 10=>kw 10++32::itoa a.node
 | 11=>kw 11
 | 12=>kw 12++32::itoa a.n
 | 13=>kw 13
 | 14=>kw 14++32::itoa a.n
 | _=>[]
def same (a b:Act):Prop:=a.kind=b.kind∧a.node=b.node∧a.n=b.n∧a.at_=b.at_∧a.x=b.x∧a.text=b.text∧jH a.keep=jH b.keep
instance (a b:Act):Decidable (same a b):=by unfold same;infer_instance
theorem AL:∀{a b:List Bool},jH a=jH b→a=b
 | [],[],_=>rfl
 | [],_::_,h=>by simp [jH] at h
 | _::_,[],h=>by simp [jH] at h
 | x::a,y::b,h=>by
   simp only [jH,List.map_cons,List.cons.injEq] at h
   have:=AL (a:=a) (b:=b) h.2
   rw [this];congr 1;cases x<;>cases y<;>simp_all
theorem same_eq {a b:Act}:same a b↔a=b:=by
 constructor
 ·rintro ⟨h1,h2,h3,h4,h5,h6,h7⟩
  cases a;cases b;simp only at h1 h2 h3 h4 h5 h6 h7;rw [h1,h2,h3,h4,h5,h6,AL h7]
 ·rintro rfl
  exact ⟨rfl,rfl,rfl,rfl,rfl,rfl,rfl⟩
def pK (a:Act):W×Int:=if (bK (line a)).2=0∧same a (bK (line a)).1 then (line a,0) else ([],2)
def part (a:Act):Act:=
 match a.kind with
 | 1=>{ kind:=1,text:=a.text }
 | 2=>{ kind:=2,node:=a.node }
 | 3=>{ kind:=3,n:=a.n }
 | 4=>{ kind:=4,n:=a.n }
 | 5=>{ kind:=5,n:=a.n }
 | 6=>{ kind:=6,n:=a.n,at_:=a.at_,x:=a.x }
 | 7=>{ kind:=7,node:=a.node,n:=a.n,x:=a.x % 2 }
 | 8=>{ kind:=8,node:=a.node,n:=a.n }
 | 9=>{ kind:=9,node:=a.node,keep:=a.keep }
 | 10=>{ kind:=10,node:=a.node }
 | 11=>{ kind:=11 }
 | 12=>{ kind:=12,n:=a.n }
 | 13=>{ kind:=13 }
 | 14=>{ kind:=14,n:=a.n }
 | _=>{}
structure Act.ok (a:Act):Prop where
 node:gK a.node
 n:gK a.n
 at_:gK a.at_
 x:0≤a.x∧a.x≤255
theorem sF:∀k,(32:UInt8)∉kw k:=by
 intro k h;unfold kw at h;split at h<;>simp at h
theorem vo:∀k:Fin 15,kindOf (kw k.val)=k.val:=by decide +kernel
theorem fJ {k:Nat} (h:2≤k) (h2:k≤14) (r:W):bK (kw k++32::r)=wm k true r:=by
 obtain ⟨j,rfl⟩:∃j,k=j+2:=⟨k-2,by omega⟩;have e:kindOf (kw (j+2))=j+2:=vo ⟨j+2,by omega⟩;unfold bK;rw [wZ _ _ (sF _),e];rfl
theorem yJ {k:Nat} (h:2≤k) (h2:k≤14):bK (kw k)=wm k false []:=by
 obtain ⟨j,rfl⟩:∃j,k=j+2:=⟨k-2,by omega⟩;have e:kindOf (kw (j+2))=j+2:=vo ⟨j+2,by omega⟩;unfold bK;rw [CK _ (sF _),e];rfl
theorem iQ {w:W} (h:(32:UInt8)∉w):oL true w=w∧gH true w=[]∧fD true w=false:=by
 simp only [oL,gH,fD,if_true];rw [CK w h];exact ⟨rfl,rfl,rfl⟩
theorem oq {w:W} (h:(32:UInt8)∉w) (r:W):oL true (w++32::r)=w∧gH true (w++32::r)=r∧fD true (w++32::r)=true:=by
 simp only [oL,gH,fD,if_true];rw [wZ w r h];exact ⟨rfl,rfl,rfl⟩
theorem fO {n:Int} (h:gK n) (e:Int):lN true (itoa n)=n∧oJ true (itoa n) e=e:=by
 unfold lN oJ;rw [(iQ (bQ n)).1,Ez h,EA h];exact ⟨rfl,by simp [kZ,wh]⟩
theorem qF {n:Int} (h:gK n) (r:W) (e:Int):lN true (itoa n++32::r)=n∧oJ true (itoa n++32::r) e=e:=by
 unfold lN oJ;rw [(oq (bQ n) r).1,Ez h,EA h];exact ⟨rfl,by simp [kZ,wh]⟩
theorem fP (a:Act):stop a false 0=(a,0):=rfl
theorem CO {l:List Bool} (h:l≠[]):mU (jH l)=true:=by
 unfold mU;have h1:jH l≠[]:=by cases l<;>simp [jH] at h ⊢
 have h2:(jH l).all (fun c=>c==43||c==45)=true:=by
  rw [List.all_eq_true];intro c hc;obtain ⟨b,_,rfl⟩:=List.mem_map.1 hc;cases b<;>rfl
 simp [h1,h2]
theorem CP (l:List Bool):kL (jH l)=l:=by
 unfold kL jH;rw [List.map_map]
 have:((fun c:UInt8=>c==43)∘fun b=>if b=true then (43:UInt8) else 45)=id:=by
  funext b;cases b<;>rfl
 rw [this,List.map_id]
theorem zB (l:List Bool):(32:UInt8)∉jH l:=by
 intro h;obtain ⟨b,_,e⟩:=List.mem_map.1 h;cases b<;>cases e
theorem Gg {a:Act} (ha:a.ok) (hk:1≤a.kind∧a.kind≤14):bK (line a)=if a.kind=1∧(10:UInt8)∈a.text then ({},6) else (part a,0):=by
 obtain ⟨kind,node,n,at_,x,text,keep⟩:=a;obtain ⟨h1,h2,h3,h4⟩:=ha;simp only at h1 h2 h3 h4 hk
 have:kind=1∨kind=2∨kind=3∨kind=4∨kind=5∨kind=6∨kind=7∨kind=8∨kind=9∨kind=10∨kind=11∨kind=12∨kind=13∨kind=14:=by omega
 rcases this with rfl | rfl | rfl | rfl | rfl | rfl | rfl | rfl | rfl | rfl | rfl | rfl | rfl | rfl
 ·have e:=vo ⟨1,by omega⟩;simp only [line,part];unfold bK;rw [wZ _ _ (sF 1),e];simp
 ·simp only [line,part];rw [fJ (by omega) (by omega)];simp only [wm,(iQ (bQ node)).2.2,(fO h1 0).1,(fO h1 0).2,fP];simp
 ·simp only [line,part];rw [fJ (by omega) (by omega)];simp only [wm,(iQ (bQ n)).2.2,(fO h2 0).1,(fO h2 0).2,fP];simp
 ·simp only [line,part];rw [fJ (by omega) (by omega)];simp only [wm,(iQ (bQ n)).2.2,(fO h2 0).1,(fO h2 0).2,fP];simp
 ·simp only [line,part];rw [fJ (by omega) (by omega)];simp only [wm,(iQ (bQ n)).2.2,(fO h2 0).1,(fO h2 0).2,fP];simp
 ·simp only [line,part];rw [fJ (by omega) (by omega)];have hx:gK x:=⟨by omega,by omega⟩;obtain ⟨a1,a2⟩:=qF h2 (itoa at_++32::itoa x) 0;obtain ⟨_,a3,a4⟩:=oq (bQ n) (itoa at_++32::itoa x);obtain ⟨b1,b2⟩:=qF h3 (itoa x) 0;obtain ⟨_,b3,b4⟩:=oq (bQ at_) (itoa x);obtain ⟨c1,c2⟩:=fO hx 0;obtain ⟨_,c3,c4⟩:=iQ (bQ x);simp only [wm,a1,a2,a3,a4,b1,b2,b3,b4,c1,c2,c3,c4];rw [if_neg (by omega),fP,show x % 256=x by omega];simp
 ·simp only [line,part];rw [fJ (by omega) (by omega)];obtain ⟨a1,a2⟩:=qF h1 (itoa n++32::(if x % 2=1 then [105,111] else [115,112,97,99,101])) 0;obtain ⟨_,a3,a4⟩:=oq (bQ node) (itoa n++32::(if x % 2=1 then [105,111] else [115,112,97,99,101]));obtain ⟨b1,b2⟩:=qF h2 (if x % 2=1 then [105,111] else [115,112,97,99,101]) 0;obtain ⟨_,b3,b4⟩:=oq (bQ n) (if x % 2=1 then [105,111] else [115,112,97,99,101]);obtain ⟨c1,c3,c4⟩:=iQ (w:=if x % 2=1 then [105,111] else [115,112,97,99,101]) (by split<;>decide)
  have hw:uf (if x % 2=1 then [105,111] else [115,112,97,99,101])=some (x % 2):=by
   by_cases hx:x % 2=1
   ·rw [if_pos hx,hx];rfl
   ·rw [if_neg hx,show x % 2=0 by omega];rfl
  simp only [wm,a1,a2,a3,a4,b1,b2,b3,b4,c1,c4,hw,wh,if_true,fP];simp
 ·simp only [line,part];rw [fJ (by omega) (by omega)];obtain ⟨a1,a2⟩:=qF h1 (itoa n) 0;obtain ⟨_,a3,a4⟩:=oq (bQ node) (itoa n);obtain ⟨b1,b2⟩:=fO h2 0;obtain ⟨_,b3,b4⟩:=iQ (bQ n);simp only [wm,a1,a2,a3,a4,b1,b2,b3,b4,fP];simp
 ·simp only [line,part];rw [fJ (by omega) (by omega)];by_cases hl:keep=[]
  ·subst hl;simp only [if_true,List.append_nil];simp only [wm,(iQ (bQ node)).2.2,(fO h1 0).1,(fO h1 0).2,fP];simp
  ·rw [if_neg hl];obtain ⟨a1,a2⟩:=qF h1 (jH keep) 0;obtain ⟨_,a3,a4⟩:=oq (bQ node) (jH keep);obtain ⟨c1,c3,c4⟩:=iQ (zB keep);simp only [wm,a1,a2,a3,a4,c1,c4,CO hl,CP,if_true,fP];simp
 ·simp only [line,part];rw [fJ (by omega) (by omega)];simp only [wm,(iQ (bQ node)).2.2,(fO h1 0).1,(fO h1 0).2,fP];simp
 ·simp only [line,part];rw [yJ (by omega) (by omega)];simp [wm,fP]
 ·simp only [line,part];rw [fJ (by omega) (by omega)];simp only [wm,(iQ (bQ n)).2.2,(fO h2 0).1,(fO h2 0).2,fP];simp
 ·simp only [line,part];rw [yJ (by omega) (by omega)];simp [wm,fP]
 ·simp only [line,part];rw [fJ (by omega) (by omega)];simp only [wm,(iQ (bQ n)).2.2,(fO h2 0).1,(fO h2 0).2,fP];simp
def aM (a:Act):W×Int:=
 if a.kind < 1∨a.kind > 14 then ([],2)
 else if a.kind=1∧(10:UInt8)∈a.text then ([],2)
 else if a.kind=7∧a.x > 1 then ([],2)
 else if a=part a then (line a,0) else ([],2)
theorem Ju:bK []=({},6):=by decide +kernel
theorem EB {a:Act} (ha:a.ok):pK a=aM a:=by
 unfold pK aM;simp only [same_eq];by_cases hk:a.kind < 1∨a.kind > 14
 ·rw [if_pos hk]
  have hl:line a=[]:=by
   unfold line
   split<;>first | rfl | omega
  rw [hl,Ju,if_neg (by simp)]
 ·rw [if_neg hk,Gg ha (by omega)];by_cases h1:a.kind=1∧(10:UInt8)∈a.text
  ·rw [if_pos h1,if_pos h1,if_neg (by simp)]
  ·rw [if_neg h1,if_neg h1];simp only [true_and];by_cases h7:a.kind=7∧a.x > 1
   ·rw [if_pos h7,if_neg];intro e;have h8:part a = { kind:=7,node:=a.node,n:=a.n,x:=a.x % 2 }:=by unfold part;rw [h7.1];rfl
    rw [h8] at e
    have:a.x=a.x % 2:=congrArg Act.x e
    omega
   ·rw [if_neg h7]
theorem LU {d:W} (h:d≠[]) (ha:d.all iY=true) (h0:d.head?≠some 48):10 ^ (d.length-1)≤val 0 d:=by
 cases d with
 | nil=>exact absurd rfl h
 | cons c r=>
   simp only [List.head?_cons,ne_eq,Option.some.injEq] at h0;simp only [List.all_cons,Bool.and_eq_true,kT] at ha;have h5:c.toNat≠48:=fun e=>h0 (UInt8.toNat_inj.1 (by simpa using e));have h2:=Pb r (10*0+(c.toNat-48));have e:val 0 (c::r)=val (10*0+(c.toNat-48)) r:=rfl;rw [e,List.length_cons,Nat.add_sub_cancel];generalize 10 ^ r.length=q at h2 ⊢;refine Nat.le_trans ?_ h2;exact Nat.le_mul_of_pos_left q (by omega)
theorem zC (t o:Nat) (ho:o < 10):decDigits (10*t+o)=(if t=0 then [] else decDigits t)++[UInt8.ofNat (48+o)]:=by
 by_cases h:t=0
 ·subst h;rw [if_pos rfl,decDigits,dif_pos (by omega)];simp
 ·rw [if_neg h,decDigits,dif_neg (by omega),show (10*t+o) / 10=t by omega,show (10*t+o) % 10=o by omega]
end Go.ay
namespace Go.Proofs.YtjoefbioobdinaaGreatDoor
open Go.RowKit Am
open Go.ay hiding cut intOf take split
set_option maxRecDepth 100000
set_option linter.unusedVariables false
set_option linter.unusedSimpArgs false
abbrev sT:Nat:=9
abbrev bT:Nat:=5
abbrev iT:Nat:=3
noncomputable abbrev YQ:Code:=dY Tryz.f76
def QN (s:W) (out:List DV) (i:Nat):jN:={ n:=43,m:=0,regs:=T.mk [(0,.d (.str s)),(4,.own 200 1),(5,.d (.int .i64 (i:Int)))],objs:=T.mk [(200,.arr bT 1 out)] }
def Gh:W:=[48,49,50,51,52,53,54,55,56,57,97,98,99,100,101,102]
def wM (c:Int):Int:=Lib.indexByte Gh c.toNat.toUInt8
def Zp:DV→DV→Option (DV×List Bool)
 | .str s,.int .u8 c=>some (.int .i64 (wM c),[decide (s=Gh)])
 | _,_=>none
theorem RZ:cK Tryz.prog 136 (e2 Zp):=by
 refine nK fun x x2 y c hg hc=>?_;unfold Zp at hg;split at hg
 ·rename_i s b;simp only [Option.some.injEq,Prod.mk.injEq] at hg;obtain ⟨rfl,rfl⟩:=hg;have h1:=of_decide_eq_true (hc (decide (s=Gh)) (by simp));subst h1;refine nY (args:=[.str Gh,.int .u8 b]) (us:=[.string ⟨Gh.toArray⟩,.int .u8 b]) (v:=.int .i64 (wM b)) rfl rfl fun w=>?_;refine (Tryz.strings_IndexByte ⟨Gh.toArray⟩ b w).mono ?_
  rintro e w' ⟨rfl,rfl⟩
  exact ⟨rfl,Below.refl _ _⟩
 ·cases hg
theorem Il (c:UInt8):wM (c.toNat:Nat)=match wL c with | some k=>(k:Int) | none=>-1:=by
 have:∀n:Fin 256,Lib.indexByte Gh (UInt8.ofNat n.val)=match wL (UInt8.ofNat n.val) with | some k=>(k:Int) | none=>-1:=by decide +kernel
 have h:=this ⟨c.toNat,UInt8.toNat_lt c⟩;simp only [UInt8.ofNat_toNat] at h;unfold wM;rw [Int.toNat_natCast,show c.toNat.toUInt8=c from UInt8.ofNat_toNat ..]
 exact h
theorem Im {c:UInt8} {k:Nat} (h:wL c=some k):k < 16:=by
 unfold wL at h;split at h
 ·injection h with h;omega
 ·split at h
  ·injection h with h;omega
  ·cases h
noncomputable def R3:List (Nat×kK):=[(136,e2 Zp)]
theorem LV:eD Tryz.prog R3:=.cons RZ .nil
def EC (o:Option W):RV:=.bn [.d (.str (o.getD [])),.d (.bool o.isSome)]
theorem AO:∀(n:Nat) (s:W),s.length=2*n+1→gP s=none
 | 0,[a],_=>rfl
 | n+1,a::b::r,h=>by
   have:=AO n r (by simp at h;omega)
   unfold gP;rw [this]
   split<;>rfl
theorem WI {x y:Nat} (hx:x < 16) (hy:y < 16):IntKind.u8.wrap (bits Go.BinOp.or .i64 (IntKind.i64.wrap ((x:Int)*16)) (y:Int))=((UInt8.ofNat (16*x+y)).toNat:Int):=by
 have:∀a b:Fin 16,IntKind.u8.wrap (bits Go.BinOp.or .i64 (IntKind.i64.wrap ((a.val:Int)*16)) (b.val:Int))=((UInt8.ofNat (16*a.val+b.val)).toNat:Int):=by decide +kernel
 exact this ⟨x,hx⟩ ⟨y,hy⟩
theorem ED {s:List UInt8} {i:Nat} {c:UInt8} (hi:i≤1000000) (h:s[i+1]? = some c):jF (.d (.int .u8 (((s.getD (IntKind.i64.wrap ((Nat.cast (R:=Int) i)+1)).toNat 0).toNat:Nat):Int))) (.d (.int .u8 ((c.toNat:Nat):Int))):=.of_eq (by
 rw [fM _ (by omega),show ((i:Int)+1).toNat=i+1 by omega,List.getD,h];rfl)
theorem LW {i n:Nat} (hi:i≤1000000) (h:i+1 < n):decide (0≤IntKind.i64.wrap ((Nat.cast (R:=Int) i)+1)∧IntKind.i64.wrap ((Nat.cast (R:=Int) i)+1) < (Nat.cast (R:=Int) n))=true:=by
 rw [fM _ (by omega)];exact decide_eq_true (by omega)
theorem drop2 {s:W} {i:Nat} {a b:UInt8} (h1:s[i]? = some a) (h2:s[i+1]? = some b):s.drop i=a::b::s.drop (i+2):=by
 obtain ⟨k1,e1⟩:=List.getElem?_eq_some_iff.1 h1;obtain ⟨k2,e2⟩:=List.getElem?_eq_some_iff.1 h2;rw [List.drop_eq_getElem_cons k1,e1,List.drop_eq_getElem_cons k2,e2]
theorem Gi {a b:UInt8} {x y:Nat} (r:W) (h1:wL a=some x) (h2:wL b=some y):gP (a::b::r)=(gP r).map (UInt8.ofNat (16*x+y) :: ·):=by
 show (match wL a,wL b with
  | some x,some y=>(gP r).map (UInt8.ofNat (16*x+y) :: ·)
  | _,_=>none)=_
 rw [h1,h2]
theorem ug (a:W):(jq a).map DV.byte=a:=by
 unfold jq;rw [List.map_map]
 have:(DV.byte∘fun b:UInt8=>DV.int .u8 b.toNat)=id:=by
  funext b
  show UInt8.ofNat ((b.toNat:Int).toNat)=b
  rw [Int.toNat_natCast];exact UInt8.ofNat_toNat ..
 rw [this,List.map_id]
theorem yK (a:W):(jq a).all DV.isByte=true:=by
 rw [List.all_eq_true];intro x hx;obtain ⟨b,_,rfl⟩:=List.mem_map.1 hx;rfl
abbrev R4 (s:W):cu→Prop:=yG (Tryz.f76.results.toList) 0 (fun r o=>r=EC (gP s)∧o=[])
set_option maxHeartbeats 2000000 in
theorem Pf (s:W) (hs:s.length≤1000000) (hm:s.length % 2=0):WK Tryz.prog 0 (aF YQ 0) (QN s [] 0).den (R4 s):=by
 have ok:=aJ LV;refine WK.rec' (fun p:W×Nat=>QN s (jq p.1) p.2) (fun p=>p.2≤s.length∧p.2 % 2=0∧p.1.length≤p.2∧gP s=(gP (s.drop p.2)).map (p.1 ++ ·)) (fun p=>s.length-p.2) ?_ ([],0) ⟨by omega,rfl,Nat.le_refl _,by simp⟩
 rintro ⟨pre,i⟩ ⟨hi,h2,hl,hb⟩ ih
 simp only at hi h2 hl hb;by_cases he:i < s.length
 ·have h1:i+1 < s.length:=by omega
  obtain ⟨a,ha⟩:∃a,s[i]? = some a:=⟨_,List.getElem?_eq_getElem he⟩;obtain ⟨b,hb1⟩:∃b,s[i+1]? = some b:=⟨_,List.getElem?_eq_getElem h1⟩;rw [drop2 ha hb1] at hb;obtain ⟨x,hx⟩:∃x,wM (a.toNat:Nat)=x:=⟨_,rfl⟩;obtain ⟨y,hy⟩:∃y,wM (b.toNat:Nat)=y:=⟨_,rfl⟩;have ex:=(Il a).symm.trans hx;have ey:=(Il b).symm.trans hy;have v1:=CB ha;have v2:=ED (i:=i) (by omega) hb1;have c1:=LP he;have c2:=LW (by omega) h1;cases hxa:wL a with
  | none=>
    rw [hxa] at ex;have x0:x < 0:=by simp only at ex;omega
    have hq:gP s=none:=by rw [hb];unfold gP;rw [hxa];rfl
    exact WK.fin ok 1000 0 [(15,aj true),(20,gB (a.toNat:Int)),(25,gB (b.toNat:Int)),(21,aK x),(26,aK y),(28,aj true),(32,aj true)] [decide (0≤(i:Int)∧(i:Int) < ((List.length s:Nat):Int)),true,decide (0≤IntKind.i64.wrap ((i:Int)+1)∧IntKind.i64.wrap ((i:Int)+1) < ((List.length s:Nat):Int)),true] [(aj (decide ((i:Int) < ((List.length s:Nat):Int))),aj true),(gB ((List.getD s (i:Int).toNat (0:UInt8)).toNat:Int),gB (a.toNat:Int)),(aK (Go.Proofs.YtjoefbioobdinaaGreatDoor.wM (a.toNat:Int)),aK x),(gB ((List.getD s (IntKind.i64.wrap ((i:Int)+1)).toNat (0:UInt8)).toNat:Int),gB (b.toNat:Int)),(aK (Go.Proofs.YtjoefbioobdinaaGreatDoor.wM (b.toNat:Int)),aK y),(aj (decide (x < 0)),aj true),(aj true,aj true)] rfl (by kernel_rfl:au (bG R3) true _ 1000 0 _ _ (QN s (jq pre) i)=some (RV.bn [aR [],aj false],[],_,_)) (by refine ⟨?_,?_,?_,?_,trivial⟩<;>(first | rfl | exact c1 | exact c2)) (by refine ⟨?_,?_,?_,?_,?_,?_,?_,trivial⟩<;>(first | exact ah (decide_eq_true (by omega)) | exact v1 | exact v2 | exact .of_eq (by rw [hx]) | exact .of_eq (by rw [hy]) | exact ah rfl)) ⟨by rw [hq];rfl,rfl⟩
  | some k=>
    rw [hxa] at ex;have hk:=Im hxa;simp only at ex;subst ex;cases hyb:wL b with
    | none=>
      rw [hyb] at ey;have y0:y < 0:=by simp only at ey;omega
      have hq:gP s=none:=by rw [hb];unfold gP;rw [hxa,hyb];rfl
      exact WK.fin ok 1000 0 [(15,aj true),(20,gB (a.toNat:Int)),(25,gB (b.toNat:Int)),(21,aK ((k:Nat):Int)),(26,aK y),(28,aj false),(31,aj true),(32,aj true)] [decide (0≤(i:Int)∧(i:Int) < ((List.length s:Nat):Int)),true,decide (0≤IntKind.i64.wrap ((i:Int)+1)∧IntKind.i64.wrap ((i:Int)+1) < ((List.length s:Nat):Int)),true] [(aj (decide ((i:Int) < ((List.length s:Nat):Int))),aj true),(gB ((List.getD s (i:Int).toNat (0:UInt8)).toNat:Int),gB (a.toNat:Int)),(aK (Go.Proofs.YtjoefbioobdinaaGreatDoor.wM (a.toNat:Int)),aK ((k:Nat):Int)),(gB ((List.getD s (IntKind.i64.wrap ((i:Int)+1)).toNat (0:UInt8)).toNat:Int),gB (b.toNat:Int)),(aK (Go.Proofs.YtjoefbioobdinaaGreatDoor.wM (b.toNat:Int)),aK y),(aj (decide (((k:Nat):Int) < 0)),aj false),(aj (decide (y < 0)),aj true),(aj true,aj true)] rfl (by kernel_rfl:au (bG R3) true _ 1000 0 _ _ (QN s (jq pre) i)=some (RV.bn [aR [],aj false],[],_,_)) (by refine ⟨?_,?_,?_,?_,trivial⟩<;>(first | rfl | exact c1 | exact c2)) (by refine ⟨?_,?_,?_,?_,?_,?_,?_,?_,trivial⟩<;>(first | exact ah (decide_eq_false (by omega)) | exact ah (decide_eq_true (by omega)) | exact v1 | exact v2 | exact .of_eq (by rw [hx]) | exact .of_eq (by rw [hy]) | exact ah rfl)) ⟨by rw [hq];rfl,rfl⟩
    | some j=>
      rw [hyb] at ey;have hj:=Im hyb;simp only at ey;subst ey;have c3:decide (((jq pre).length+1)*1≤2 ^ 38)=true:=decide_eq_true (by unfold jq;rw [List.length_map];omega);have v3:=O9 (i:=i) (by omega)
      have hk2:=ih (pre++[UInt8.ofNat (16*k+j)],i+2) ⟨by omega,by omega,by rw [List.length_append];simp only [List.length_cons,List.length_nil];omega,by
       rw [hb,Gi _ hxa hyb,Option.map_map];congr 1;funext q;simp⟩ (by simp only;omega)
      have e5:jq (pre++[UInt8.ofNat (16*k+j)])=jq pre++[.int .u8 (IntKind.u8.wrap (bits Go.BinOp.or .i64 (IntKind.i64.wrap ((k:Int)*16)) (j:Int)))]:=by
       rw [WI hk hj];unfold jq;rw [List.map_append];rfl
      simp only at hk2;rw [e5] at hk2;refine WK.eF ok 1000 0 [(15,aj true),(20,gB (a.toNat:Int)),(25,gB (b.toNat:Int)),(21,aK ((k:Nat):Int)),(26,aK ((j:Nat):Int)),(28,aj false),(31,aj false),(32,aj false),(17,aK ((i+2:Nat):Int))] [] [0,4,5] [decide (0≤(i:Int)∧(i:Int) < ((List.length s:Nat):Int)),true,decide (0≤IntKind.i64.wrap ((i:Int)+1)∧IntKind.i64.wrap ((i:Int)+1) < ((List.length s:Nat):Int)),true,true,decide (((jq pre).length+[aU (IntKind.u8.wrap (bits Go.BinOp.or IntKind.i64 (IntKind.i64.wrap (((k:Nat):Int)*2 ^ Min.min (Int.toNat (4)) IntKind.i64.bits)) ((j:Nat):Int)))].length)*Go.Proofs.Tryz.prog.types[5].bytes≤2 ^ 38)] [(aj (decide ((i:Int) < ((List.length s:Nat):Int))),aj true),(gB ((List.getD s (i:Int).toNat (0:UInt8)).toNat:Int),gB (a.toNat:Int)),(aK (Go.Proofs.YtjoefbioobdinaaGreatDoor.wM (a.toNat:Int)),aK ((k:Nat):Int)),(gB ((List.getD s (IntKind.i64.wrap ((i:Int)+1)).toNat (0:UInt8)).toNat:Int),gB (b.toNat:Int)),(aK (Go.Proofs.YtjoefbioobdinaaGreatDoor.wM (b.toNat:Int)),aK ((j:Nat):Int)),(aj (decide (((k:Nat):Int) < 0)),aj false),(aj (decide (((j:Nat):Int) < 0)),aj false),(aj false,aj false),(aK (IntKind.i64.wrap ((i:Int)+2)),aK ((i+2:Nat):Int))] rfl (by kernel_rfl:bq (bG R3) 1000 0 _ _ _ _ (QN s (jq pre) i)=some (aF YQ 0,QN s (jq pre++[.int .u8 (IntKind.u8.wrap (bits Go.BinOp.or .i64 (IntKind.i64.wrap ((k:Int)*16)) (j:Int)))]) (i+2),_,_)) (by refine ⟨?_,?_,?_,?_,?_,?_,trivial⟩<;>(first | rfl | exact c1 | exact c2 | exact c3)) (by refine ⟨?_,?_,?_,?_,?_,?_,?_,?_,?_,trivial⟩<;>(first | exact ah (decide_eq_false (by omega)) | exact ah (decide_eq_true (by omega)) | exact v1 | exact v2 | exact v3 | exact .of_eq (by rw [hx]) | exact .of_eq (by rw [hy]) | exact ah rfl)) ?_
      exact hk2
 ·have hd:s.drop i=[]:=List.drop_eq_nil_of_le (by omega);have hq:gP s=some pre:=by rw [hb,hd];simp [gP]
  have c4:(jq pre).all DV.isByte=true:=yK pre;exact WK.fin ok 1000 0 [(15,aj false)] [(jq pre).all DV.isByte] [(aj (decide ((i:Int) < ((List.length s:Nat):Int))),aj false)] rfl (by kernel_rfl:au (bG R3) true _ 1000 0 _ _ (QN s (jq pre) i)=some (RV.bn [aR (List.map DV.byte (jq pre)),aj true],[],_,_)) ⟨(by first | rfl | exact c4),trivial⟩ ⟨(by first | exact ah (decide_eq_false (by omega)) | exact ah rfl),trivial⟩ ⟨by rw [hq];simp only [EC,ug,Option.getD_some,Option.isSome_some],rfl⟩
theorem Zq (s:W) (hs:s.length≤1000000):Go.Am.C Tryz.prog 76 [.d (.str s)] [] (fun r o=>r=EC (gP s)∧o=[]):=by
 have ok:=aJ LV;refine aH (fn:=Tryz.f76) (body:=YQ) true (by kernel_rfl) (by kernel_rfl) (by kernel_rfl) ?_;by_cases hm:s.length % 2=0
 ·have e:((s.length:Int).tmod 2 != 0)=false:=by
   have:(s.length:Int).tmod 2=((s.length % 2:Nat):Int):=rfl
   rw [this,hm];rfl
  have hk:=Pf s hs hm;refine WK.eF ok 1000 0 [(11,aj false)] [(4,250,bT,1)] [0,4,5] [true] [(aj (((List.length s:Nat):Int).tmod (2) != 0),aj false)] rfl (by kernel_rfl:bq (bG R3) 1000 0 _ _ _ _ (bV 43 [.d (.str s)] [])=some (aF YQ 0,QN s (jq []) 0,_,_)) ⟨(by rfl),trivial⟩ ⟨(by exact ah e),trivial⟩ ?_;exact hk
 ·have e:((s.length:Int).tmod 2 != 0)=true:=by
   have:(s.length:Int).tmod 2=((s.length % 2:Nat):Int):=rfl
   rw [this,show s.length % 2=1 by omega];rfl
  have hq:gP s=none:=AO (s.length / 2) s (by omega);exact WK.fin ok 1000 0 [(11,aj true)] [true] [(aj (((List.length s:Nat):Int).tmod (2) != 0),aj true)] rfl (by kernel_rfl:au (bG R3) true _ 1000 0 _ _ (bV 43 [.d (.str s)] [])=some (RV.bn [aR [],aj false],[],_,_)) ⟨(by rfl),trivial⟩ ⟨(by exact ah e),trivial⟩ ⟨by rw [hq];rfl,rfl⟩
def Zr:DV→Option (RV×List Bool)
 | .str s=>some (EC (gP s),[decide (s.length≤1000000)])
 | _=>none
theorem R5:cK Tryz.prog 76 (Ay Zr):=by
 refine oo fun x y c hg hc=>?_;unfold Zr at hg;split at hg
 ·rename_i s;simp only [Option.some.injEq,Prod.mk.injEq] at hg;obtain ⟨rfl,rfl⟩:=hg;exact Zq s (of_decide_eq_true (hc _ (by simp:decide (s.length≤1000000)∈[decide (s.length≤1000000)])))
 ·cases hg
end Go.Proofs.YtjoefbioobdinaaGreatDoor
namespace Go.ay
open Go.Lib
theorem drop1 {α:Type} {t:List α} {i:Nat} {c:α} (h:t[i]? = some c):t.drop i=c::t.drop (i+1):=by
 obtain ⟨k1,e1⟩:=List.getElem?_eq_some_iff.1 h;rw [List.drop_eq_getElem_cons k1,e1]
theorem LX {s:List UInt8} {a:UInt8} (h:s[0]? = some a):hasPrefix s [39]=decide (a=39):=by
 cases s with
 | nil=>cases h
 | cons x r=>
   simp at h;subst h;simp only [hasPrefix,List.isPrefixOf,Bool.and_true];by_cases e:x=39
   ·subst e;rfl
   ·rw [decide_eq_false e];exact beq_false_of_ne (Ne.symm e)
theorem QO {s:List UInt8} {b:UInt8} (h:s[s.length-1]? = some b):hasSuffix s [39]=decide (b=39):=by
 have e:s.reverse[0]? = some b:=by
  have hl:0 < s.length:=by
   rcases List.getElem?_eq_some_iff.1 h with ⟨k,_⟩;omega
  rw [List.getElem?_reverse (by omega)];exact h
 have:=LX (s:=s.reverse) e
 rw [←this];rfl
def yL (s:W):Option W:=if 2≤s.length∧hasPrefix s [39]=true∧hasSuffix s [39]=true then kI (inner s 1) else none
theorem Pg {s:W} {a b:UInt8} (h:2≤s.length) (h1:s[0]? = some a) (h2:s[s.length-1]? = some b) (ha:a=39) (hb:b=39):yL s=kI (inner s 1):=by
 unfold yL;rw [LX h1,QO h2,if_pos ⟨h,by simp [ha],by simp [hb]⟩]
theorem LY {s:W} {a b:UInt8} (h1:s[0]? = some a) (h2:s[s.length-1]? = some b) (h:¬(a=39∧b=39)):yL s=none:=by
 unfold yL;rw [LX h1,QO h2,if_neg (by simp;intro _ x y;exact h ⟨x,y⟩)]
theorem Jv {s:W} (h:s.length < 2):yL s=none:=by
 unfold yL;rw [if_neg (by omega)]
theorem Gj {c:UInt8} (r:W) (h:c≠39):kI (c::r)=(kI r).map (c :: ·):=by
 rw [kI.eq_def];simp only [if_neg h]
theorem Jw:kI [39]=none:=by decide +kernel
theorem Jy (r:W):kI (39::39::r)=(kI r).map (39 :: ·):=by
 rw [kI.eq_def];simp
theorem Jz {d:UInt8} (r:W) (h:d≠39):kI (39::d::r)=none:=by
 rw [kI.eq_def];simp [h]
theorem take_at {s:W} {i:Nat} (h:i < s.length-1):(s.take (s.length-1))[i]? = s[i]?:=by
 rw [List.getElem?_take,if_pos h]
theorem rJ {s:W} {i:Nat} (h:s.length-1≤i):(s.take (s.length-1)).drop i=[]:=by
 apply List.drop_eq_nil_of_le;rw [List.length_take];omega
theorem CQ:∀s:W,(indexByte s 32 = -1∧ay.cut s=(s,[],false))∨∃i:Nat,i < s.length∧indexByte s 32=(i:Int)∧ay.cut s=(s.take i,s.drop (i+1),true)
 | []=>.inl ⟨rfl,rfl⟩
 | b::l=>by
   rw [tZ];unfold indexByte;by_cases h:b=32
   ·right;exact ⟨0,by simp,by simp [h],by simp [h]⟩
   ·rw [if_neg (by simpa using h),if_neg h];rcases CQ l with ⟨e1,e2⟩ | ⟨i,hi,e1,e2⟩
    ·left;rw [e1,e2];exact ⟨by decide,rfl⟩
    ·right;refine ⟨i+1,by simp;omega,?_,?_⟩
     ·rw [e1,if_neg (by simp)];omega
     ·rw [e2];rfl
theorem w9 (s:W):(ay.cut s).1.length≤s.length∧(ay.cut s).2.1.length≤s.length:=by
 rcases CQ s with ⟨_,e⟩ | ⟨i,hi,_,e⟩
 ·rw [e];exact ⟨Nat.le_refl _,Nat.zero_le _⟩
 ·rw [e];simp only [List.length_take,List.length_drop];omega
theorem CS (m:Bool) (r:W):(oL m r).length≤r.length+1:=by
 unfold oL;split
 ·have:=(w9 r).1;omega
 ·simp
theorem ou (m:Bool) (r:W):(gH m r).length≤r.length:=by
 unfold gH;split
 ·exact (w9 r).2
 ·exact Nat.le_refl _
theorem LZ {l cs:List UInt8}:trimS l cs=[]↔(l.all fun c=>cs.contains c)=true:=by
 unfold trimS trimLeftS trimRightS;constructor
 ·intro h;rw [dropWhile_nil,List.all_reverse] at h;rw [←List.all_reverse,←List.takeWhile_append_dropWhile (p:=fun c=>cs.contains c) (l:=l.reverse),List.all_append,h,Bool.and_true];exact List.all_takeWhile
 ·intro h;have h2:l.reverse.dropWhile (fun c=>cs.contains c)=[]:=dropWhile_nil.2 (by rw [List.all_reverse];exact h);rw [h2];rfl
theorem Io {w:W}:trimS w [43,45]=[]↔(w.all fun c=>c==43||c==45)=true:=by
 rw [LZ]
 have e:(fun c:UInt8=>([43,45]:List UInt8).contains c)=fun c=>c==43||c==45:=by
  funext c;simp only [List.contains,List.elem];cases c==43<;>cases c==45<;>rfl
 rw [e]
end Go.ay
namespace Go.Proofs.YtjoefbioobdinaaGreatDoor
open Go.RowKit Am
open Go.ay hiding cut intOf take split
set_option maxRecDepth 100000
set_option linter.unusedVariables false
set_option linter.unusedSimpArgs false
noncomputable abbrev WJ:Code:=dY Tryz.f77
noncomputable abbrev nxC:Code:=dY Tryz.f137
def NW (s:W) (out:List DV) (k:Int):jN:={ n:=52,m:=0,regs:=T.mk [(1,.ptr 200 0),(4,.own 201 1),(5,.ptr 202 0),(6,.gI (.func 137) [] [.ptr 200 0,.ptr 202 0])],objs:=T.mk [(200,.box sT [.d (.str s)]),(201,.arr bT 1 out),(202,.box iT [.d (.int .i64 k)])] }
def Zt:kK:=fun a o=>match a,o with
 | [.ptr 0 0,.ptr 1 0],[.box A [.d (.str s)],.box B [.d (.int .i64 k)]]=>
   some (.d (.int .u8 ((s.getD k.toNat 0).toNat:Nat)),[.box A [.d (.str s)],.box B [.d (.int .i64 (IntKind.i64.wrap (k+1)))]],[Nat.beq A sT,Nat.beq B iT,decide (0≤k∧k < (s.length:Int))])
 | _,_=>none
theorem R6:cK Tryz.prog 137 Zt:=by
 intro a o r o' c hg hc;unfold Zt at hg;split at hg
 ·rename_i A s B k;simp only [Option.some.injEq,Prod.mk.injEq] at hg;obtain ⟨rfl,rfl,rfl⟩:=hg;have hA:=cB (hc (Nat.beq A sT) (by simp));have hB:=cB (hc (Nat.beq B iT) (by simp));have hk:=hc (decide (0≤k∧k < (s.length:Int))) (by simp);subst hA;subst hB;have ok:=aJ (l:=[]) .nil;refine aH (fn:=Tryz.f137) (body:=nxC) true (by kernel_rfl) (by kernel_rfl) (by kernel_rfl) ?_;exact WK.fin ok 1000 0 [] [decide (0≤k∧k < ((List.length s:Nat):Int))] [] rfl (by kernel_rfl:au (bG []) true _ 1000 0 _ _ (bV 10 [.ptr 0 0,.ptr 1 0] [.box sT [.d (.str s)],.box iT [.d (.int .i64 k)]])=some (gB ((List.getD s k.toNat (0:UInt8)).toNat:Int),[av.box 9 [aR s],av.box 3 [aK (IntKind.i64.wrap (k+1))]],_,_)) ⟨(by first | rfl | exact hk),trivial⟩ trivial ⟨rfl,rfl⟩
 ·cases hg
noncomputable def NY:List (Nat×kK):=[(137,Zt)]
theorem L6:eD Tryz.prog NY:=.cons R6 .nil
abbrev R7 (s:W):cu→Prop:=yG (Tryz.f77.results.toList) 0 (fun r o=>r=EC (yL s)∧o=[])
theorem Ph {a:UInt8} (h:a=39):((Nat.cast (R:=Int) a.toNat) != 39)=false:=by subst h;rfl
theorem Pj {a:UInt8} (h:a≠39):((Nat.cast (R:=Int) a.toNat) != 39)=true:=by
 rw [bne_iff_ne];intro e
 exact h (UInt8.toNat_inj.1 (by have:a.toNat=39:=by omega
                                exact this))
theorem R8 {a:UInt8} (h:a=39):((Nat.cast (R:=Int) a.toNat)==39)=true:=by subst h;rfl
theorem Zu {a:UInt8} (h:a≠39):((Nat.cast (R:=Int) a.toNat)==39)=false:=by
 have:=Pj h
 rw [bne,Bool.not_eq_true'] at this;exact this
theorem L8 {s:List UInt8} {c:UInt8} (h:s[0]? = some c):jF (.d (.int .u8 (((s.getD 0 0).toNat:Nat):Int))) (.d (.int .u8 ((c.toNat:Nat):Int))):=.of_eq (by
 rw [List.getD,h];rfl)
theorem Ma {s:List UInt8} {c:UInt8} (h1:1≤s.length) (h2:s.length≤1000000) (h:s[s.length-1]? = some c):jF (.d (.int .u8 (((s.getD (IntKind.i64.wrap ((Nat.cast (R:=Int) s.length)-1)).toNat 0).toNat:Nat):Int))) (.d (.int .u8 ((c.toNat:Nat):Int))):=.of_eq (by
 rw [fM _ (by omega),show ((s.length:Int)-1).toNat=s.length-1 by omega,List.getD,h];rfl)
theorem uh (a:W) (c:UInt8):jq (a++[c])=jq a++[.int .u8 (Nat.cast (R:=Int) c.toNat)]:=by
 unfold jq;rw [List.map_append];rfl
set_option maxHeartbeats 4000000 in
theorem Pk (s:W) (hs:s.length≤1000000) (h2:2≤s.length) (hy:yL s=kI (inner s 1)):WK Tryz.prog 0 (aF WJ 0) (NW s [] (1:Nat)).den (R7 s):=by
 have ok:=aJ L6;refine WK.rec' (fun p:W×Nat=>NW s (jq p.1) (p.2:Nat)) (fun p=>1≤p.2∧p.2≤s.length-1∧p.1.length≤p.2∧yL s=(kI ((s.take (s.length-1)).drop p.2)).map (p.1 ++ ·)) (fun p=>s.length-p.2) ?_ ([],1) ⟨by omega,by simp only;omega,by simp,by rw [hy];simp [inner]⟩
 rintro ⟨pre,i⟩ ⟨hi1,hi,hl,hb⟩ ih
 simp only at hi1 hi hl hb;have wr:IntKind.i64.wrap ((Nat.cast (R:=Int) s.length)-1)=((s.length-1:Nat):Int):=by rw [fM _ (by omega)];omega
 have wi:IntKind.i64.wrap ((Nat.cast (R:=Int) i)+1)=((i+1:Nat):Int):=by rw [fM _ (by omega)];omega
 have c9:∀c:Int,decide (((jq pre).length+[DV.int .u8 c].length)*1≤2 ^ 38)=true:=fun c=>decide_eq_true (by unfold jq;rw [List.length_map];simp only [List.length_cons,List.length_nil];omega);by_cases he:i < s.length-1
 ·have ci:=LP (n:=s.length) (i:=i) (by omega);obtain ⟨a,ha⟩:∃a,s[i]? = some a:=⟨_,List.getElem?_eq_getElem (by omega)⟩;have v1:=CB ha;have hd:(s.take (s.length-1)).drop i=a::(s.take (s.length-1)).drop (i+1):=drop1 (by rw [take_at he];exact ha);rw [hd] at hb;by_cases Ip:a=39
  ·by_cases hz:i+1=s.length-1
   ·have hq:yL s=none:=by rw [hb,rJ (by omega),Ip,Jw];rfl
    exact WK.fin ok 1000 0 [(29,aj true),(31,gB (a.toNat:Int)),(33,aj true),(39,aj true),(44,aj true),(45,aj true)] [true,true,decide (0≤(i:Int)∧(i:Int) < ((List.length s:Nat):Int))] [(aj (decide ((i:Int) < IntKind.i64.wrap (((List.length s:Nat):Int)-1))),aj true),(gB ((List.getD s (i:Int).toNat (0:UInt8)).toNat:Int),gB (a.toNat:Int)),(aj ((a.toNat:Int)==39),aj true),(aj (IntKind.i64.wrap ((i:Int)+1)==IntKind.i64.wrap (((List.length s:Nat):Int)-1)),aj true),(aj true,aj true),(aj true,aj true)] rfl (by kernel_rfl:au (bG NY) true _ 1000 0 _ _ (NW s (jq pre) (i:Nat))=some (RV.bn [aR [],aj false],[],_,_)) (by refine ⟨?_,?_,?_,trivial⟩<;>(first | rfl | exact ci)) (by refine ⟨?_,?_,?_,?_,?_,?_,trivial⟩<;>(first | exact ah rfl | exact v1 | exact ah (R8 Ip) | exact ah (by rw [wr];exact decide_eq_true (by omega)) | exact ah (by rw [wr,wi];exact beq_iff_eq.2 (by omega)))) ⟨by rw [hq];rfl,rfl⟩
   ·have hi2:i+1 < s.length-1:=by omega
    obtain ⟨b,hb1⟩:∃b,s[i+1]? = some b:=⟨_,List.getElem?_eq_getElem (by omega)⟩;have v2:=ED (i:=i) (by omega) hb1;have c2:=LW (n:=s.length) (i:=i) (by omega) (by omega);have hd2:(s.take (s.length-1)).drop (i+1)=b::(s.take (s.length-1)).drop (i+2):=drop1 (by rw [take_at hi2];exact hb1);rw [hd2,Ip] at hb;by_cases Pm:b=39
    ·rw [Pm,Jy,Option.map_map] at hb
     have hk2:=ih (pre++[a],i+2) ⟨by simp only;omega,by simp only;omega,by rw [List.length_append];simp only [List.length_cons,List.length_nil];omega,by
      rw [hb];congr 1;funext q;simp [Ip]⟩ (by simp only;omega)
     have e6:((i+2:Nat):Int)=IntKind.i64.wrap (IntKind.i64.wrap ((Nat.cast (R:=Int) i)+1)+1):=by rw [wi,fM _ (by omega)];omega
     simp only at hk2;rw [uh,e6] at hk2;refine WK.eF ok 1000 0 [(29,aj true),(31,gB (a.toNat:Int)),(33,aj true),(39,aj false),(42,gB (b.toNat:Int)),(43,aj false),(44,aj false),(45,aj false)] [] [1,4,5,6] [true,true,decide (0≤(i:Int)∧(i:Int) < ((List.length s:Nat):Int)),true,true,decide (0≤IntKind.i64.wrap ((i:Int)+1)∧IntKind.i64.wrap ((i:Int)+1) < ((List.length s:Nat):Int)),decide (((jq pre).length+[aU (a.toNat:Int)].length)*Go.Proofs.Tryz.prog.types[5].bytes≤2 ^ 38)] [(aj (decide ((i:Int) < IntKind.i64.wrap (((List.length s:Nat):Int)-1))),aj true),(gB ((List.getD s (i:Int).toNat (0:UInt8)).toNat:Int),gB (a.toNat:Int)),(aj ((a.toNat:Int)==39),aj true),(aj (IntKind.i64.wrap ((i:Int)+1)==IntKind.i64.wrap (((List.length s:Nat):Int)-1)),aj false),(gB ((List.getD s (IntKind.i64.wrap ((i:Int)+1)).toNat (0:UInt8)).toNat:Int),gB (b.toNat:Int)),(aj ((b.toNat:Int) != 39),aj false),(aj false,aj false),(aj false,aj false)] rfl (by kernel_rfl:bq (bG NY) 1000 0 _ _ _ _ (NW s (jq pre) (i:Nat))=some (aF WJ 0,NW s (jq pre++[.int .u8 (a.toNat:Int)]) (IntKind.i64.wrap (IntKind.i64.wrap ((i:Int)+1)+1)),_,_)) (by refine ⟨?_,?_,?_,?_,?_,?_,?_,trivial⟩<;>(first | rfl | exact ci | exact c2 | exact c9 _)) (by refine ⟨?_,?_,?_,?_,?_,?_,?_,?_,trivial⟩<;>(first | exact ah rfl | exact v1 | exact v2 | exact ah (R8 Ip) | exact ah (Ph Pm) | exact ah (by rw [wr];exact decide_eq_true (by omega)) | exact ah (by rw [wr,wi];exact beq_false_of_ne (by omega)))) ?_
     exact hk2
    ·have hq:yL s=none:=by rw [hb,Jz _ Pm];rfl
     exact WK.fin ok 1000 0 [(29,aj true),(31,gB (a.toNat:Int)),(33,aj true),(39,aj false),(42,gB (b.toNat:Int)),(43,aj true),(44,aj true),(45,aj true)] [true,true,decide (0≤(i:Int)∧(i:Int) < ((List.length s:Nat):Int)),true,true,decide (0≤IntKind.i64.wrap ((i:Int)+1)∧IntKind.i64.wrap ((i:Int)+1) < ((List.length s:Nat):Int))] [(aj (decide ((i:Int) < IntKind.i64.wrap (((List.length s:Nat):Int)-1))),aj true),(gB ((List.getD s (i:Int).toNat (0:UInt8)).toNat:Int),gB (a.toNat:Int)),(aj ((a.toNat:Int)==39),aj true),(aj (IntKind.i64.wrap ((i:Int)+1)==IntKind.i64.wrap (((List.length s:Nat):Int)-1)),aj false),(gB ((List.getD s (IntKind.i64.wrap ((i:Int)+1)).toNat (0:UInt8)).toNat:Int),gB (b.toNat:Int)),(aj ((b.toNat:Int) != 39),aj true),(aj true,aj true),(aj true,aj true)] rfl (by kernel_rfl:au (bG NY) true _ 1000 0 _ _ (NW s (jq pre) (i:Nat))=some (RV.bn [aR [],aj false],[],_,_)) (by refine ⟨?_,?_,?_,?_,?_,?_,trivial⟩<;>(first | rfl | exact ci | exact c2)) (by refine ⟨?_,?_,?_,?_,?_,?_,?_,?_,trivial⟩<;>(first | exact ah rfl | exact v1 | exact v2 | exact ah (R8 Ip) | exact ah (Pj Pm) | exact ah (by rw [wr];exact decide_eq_true (by omega)) | exact ah (by rw [wr,wi];exact beq_false_of_ne (by omega)))) ⟨by rw [hq];rfl,rfl⟩
  ·rw [Gj _ Ip,Option.map_map] at hb
   have hk2:=ih (pre++[a],i+1) ⟨by simp only;omega,by simp only;omega,by rw [List.length_append];simp only [List.length_cons,List.length_nil];omega,by
    rw [hb];congr 1;funext q;simp⟩ (by simp only;omega)
   simp only at hk2;rw [uh,←wi] at hk2;refine WK.eF ok 1000 0 [(29,aj true),(31,gB (a.toNat:Int)),(33,aj false),(45,aj false)] [] [1,4,5,6] [true,true,decide (0≤(i:Int)∧(i:Int) < ((List.length s:Nat):Int)),decide (((jq pre).length+[aU (a.toNat:Int)].length)*Go.Proofs.Tryz.prog.types[5].bytes≤2 ^ 38)] [(aj (decide ((i:Int) < IntKind.i64.wrap (((List.length s:Nat):Int)-1))),aj true),(gB ((List.getD s (i:Int).toNat (0:UInt8)).toNat:Int),gB (a.toNat:Int)),(aj ((a.toNat:Int)==39),aj false),(aj false,aj false)] rfl (by kernel_rfl:bq (bG NY) 1000 0 _ _ _ _ (NW s (jq pre) (i:Nat))=some (aF WJ 0,NW s (jq pre++[.int .u8 (a.toNat:Int)]) (IntKind.i64.wrap ((i:Int)+1)),_,_)) (by refine ⟨?_,?_,?_,?_,trivial⟩<;>(first | rfl | exact ci | exact c9 _)) (by refine ⟨?_,?_,?_,?_,trivial⟩<;>(first | exact ah rfl | exact v1 | exact ah (Zu Ip) | exact ah (by rw [wr];exact decide_eq_true (by omega)))) ?_
   exact hk2
 ·have hq:yL s=some pre:=by rw [hb,rJ (by omega)];simp [kI]
  have c4:(jq pre).all DV.isByte=true:=yK pre;exact WK.fin ok 1000 0 [(29,aj false)] [(jq pre).all DV.isByte] [(aj (decide ((i:Int) < IntKind.i64.wrap (((List.length s:Nat):Int)-1))),aj false)] rfl (by kernel_rfl:au (bG NY) true _ 1000 0 _ _ (NW s (jq pre) (i:Nat))=some (RV.bn [aR (List.map DV.byte (jq pre)),aj true],[],_,_)) ⟨(by first | rfl | exact c4),trivial⟩ ⟨(by first | exact ah rfl | exact ah (by rw [wr];exact decide_eq_false (by omega))),trivial⟩ ⟨by rw [hq];simp only [EC,ug,Option.getD_some,Option.isSome_some],rfl⟩
set_option maxHeartbeats 2000000 in
theorem Zv (s:W) (hs:s.length≤1000000):Go.Am.C Tryz.prog 77 [.d (.str s)] [] (fun r o=>r=EC (yL s)∧o=[]):=by
 have ok:=aJ L6;refine aH (fn:=Tryz.f77) (body:=WJ) true (by kernel_rfl) (by kernel_rfl) (by kernel_rfl) ?_;by_cases hl:s.length < 2
 ·have hq:=Jv hl;exact WK.fin ok 1000 0 [(10,aj true),(15,aj true),(23,aj true)] [] [(aj (decide (((List.length s:Nat):Int) < 2)),aj true),(aj true,aj true),(aj true,aj true)] rfl (by kernel_rfl:au (bG NY) true _ 1000 0 _ _ (bV 52 [.d (.str s)] [])=some (RV.bn [aR [],aj false],[],_,_)) trivial (by refine ⟨?_,?_,?_,trivial⟩<;>(first | exact ah rfl | exact ah (decide_eq_true (by omega)))) ⟨by rw [hq];rfl,rfl⟩
 ·obtain ⟨a,ha⟩:∃a,s[0]? = some a:=⟨_,List.getElem?_eq_getElem (by omega)⟩;obtain ⟨b,hb⟩:∃b,s[s.length-1]? = some b:=⟨_,List.getElem?_eq_getElem (by omega)⟩;have wr:IntKind.i64.wrap ((Nat.cast (R:=Int) s.length)-1)=((s.length-1:Nat):Int):=by rw [fM _ (by omega)];omega
  have c0:decide ((0:Int)≤0∧0 < (Nat.cast (R:=Int) s.length))=true:=decide_eq_true (by omega);have c1:decide ((0:Int)≤IntKind.i64.wrap ((Nat.cast (R:=Int) s.length)-1)∧IntKind.i64.wrap ((Nat.cast (R:=Int) s.length)-1) < (Nat.cast (R:=Int) s.length))=true:=by rw [wr];exact decide_eq_true (by omega)
  have v0:=L8 ha;have v1:=Ma (by omega) hs hb;by_cases Ip:a=39
  ·by_cases Pm:b=39
   ·have hk:=Pk s hs (by omega) (Pg (by omega) ha hb Ip Pm);refine WK.eF ok 1000 0 [(10,aj false),(13,gB (a.toNat:Int)),(14,aj false),(15,aj false),(21,gB (b.toNat:Int)),(22,aj false),(23,aj false)] [(4,250,bT,1)] [1,4,5,6] [decide ((0:Int)≤0∧(0:Int) < ((List.length s:Nat):Int)),decide (0≤IntKind.i64.wrap (((List.length s:Nat):Int)-1)∧IntKind.i64.wrap (((List.length s:Nat):Int)-1) < ((List.length s:Nat):Int))] [(aj (decide (((List.length s:Nat):Int) < 2)),aj false),(gB ((List.getD s 0 (0:UInt8)).toNat:Int),gB (a.toNat:Int)),(aj ((a.toNat:Int) != 39),aj false),(aj false,aj false),(gB ((List.getD s (IntKind.i64.wrap (((List.length s:Nat):Int)-1)).toNat (0:UInt8)).toNat:Int),gB (b.toNat:Int)),(aj ((b.toNat:Int) != 39),aj false),(aj false,aj false)] rfl (by kernel_rfl:bq (bG NY) 1000 0 _ _ _ _ (bV 52 [.d (.str s)] [])=some (aF WJ 0,NW s (jq []) (1:Nat),_,_)) (by refine ⟨?_,?_,trivial⟩<;>(first | rfl | exact c0 | exact c1)) (by refine ⟨?_,?_,?_,?_,?_,?_,?_,trivial⟩<;>(first | exact ah rfl | exact v0 | exact v1 | exact ah (Ph Ip) | exact ah (Ph Pm) | exact ah (decide_eq_false (by omega)))) ?_
    exact hk
   ·have hq:=LY ha hb (fun h=>Pm h.2);exact WK.fin ok 1000 0 [(10,aj false),(13,gB (a.toNat:Int)),(14,aj false),(15,aj false),(21,gB (b.toNat:Int)),(22,aj true),(23,aj true)] [decide ((0:Int)≤0∧(0:Int) < ((List.length s:Nat):Int)),decide (0≤IntKind.i64.wrap (((List.length s:Nat):Int)-1)∧IntKind.i64.wrap (((List.length s:Nat):Int)-1) < ((List.length s:Nat):Int))] [(aj (decide (((List.length s:Nat):Int) < 2)),aj false),(gB ((List.getD s 0 (0:UInt8)).toNat:Int),gB (a.toNat:Int)),(aj ((a.toNat:Int) != 39),aj false),(aj false,aj false),(gB ((List.getD s (IntKind.i64.wrap (((List.length s:Nat):Int)-1)).toNat (0:UInt8)).toNat:Int),gB (b.toNat:Int)),(aj ((b.toNat:Int) != 39),aj true),(aj true,aj true)] rfl (by kernel_rfl:au (bG NY) true _ 1000 0 _ _ (bV 52 [.d (.str s)] [])=some (RV.bn [aR [],aj false],[],_,_)) (by refine ⟨?_,?_,trivial⟩<;>(first | rfl | exact c0 | exact c1)) (by refine ⟨?_,?_,?_,?_,?_,?_,?_,trivial⟩<;>(first | exact ah rfl | exact v0 | exact v1 | exact ah (Ph Ip) | exact ah (Pj Pm) | exact ah (decide_eq_false (by omega)))) ⟨by rw [hq];rfl,rfl⟩
  ·have hq:=LY ha hb (fun h=>Ip h.1);exact WK.fin ok 1000 0 [(10,aj false),(13,gB (a.toNat:Int)),(14,aj true),(15,aj true),(23,aj true)] [decide ((0:Int)≤0∧(0:Int) < ((List.length s:Nat):Int))] [(aj (decide (((List.length s:Nat):Int) < 2)),aj false),(gB ((List.getD s 0 (0:UInt8)).toNat:Int),gB (a.toNat:Int)),(aj ((a.toNat:Int) != 39),aj true),(aj true,aj true),(aj true,aj true)] rfl (by kernel_rfl:au (bG NY) true _ 1000 0 _ _ (bV 52 [.d (.str s)] [])=some (RV.bn [aR [],aj false],[],_,_)) ⟨(by first | rfl | exact c0),trivial⟩ (by refine ⟨?_,?_,?_,?_,?_,trivial⟩<;>(first | exact ah rfl | exact v0 | exact ah (Pj Ip) | exact ah (decide_eq_false (by omega)))) ⟨by rw [hq];rfl,rfl⟩
def Zw:DV→Option (RV×List Bool)
 | .str s=>some (EC (yL s),[decide (s.length≤1000000)])
 | _=>none
theorem R9:cK Tryz.prog 77 (Ay Zw):=by
 refine oo fun x y c hg hc=>?_;unfold Zw at hg;split at hg
 ·rename_i s;simp only [Option.some.injEq,Prod.mk.injEq] at hg;obtain ⟨rfl,rfl⟩:=hg;exact Zv s (of_decide_eq_true (hc _ (by simp:decide (s.length≤1000000)∈[decide (s.length≤1000000)])))
 ·cases hg
end Go.Proofs.YtjoefbioobdinaaGreatDoor
namespace Go.Proofs.YtjoefbioobdinaaGreatDoor
open Go.RowKit Am
open Go.ay hiding cut intOf take split
set_option maxRecDepth 100000
set_option linter.unusedVariables false
def EF (s:W):Int:=match Lib.parseIntB 64 s with
 | .ok n=>n
 | .range=>Lib.intSat 64 s
 | _=>0
def Zx:DV→Option (DV×List Bool)
 | .str s=>some (.bn [.int .i64 (EF s),.bool (ay.intOf s).isSome],[decide (s.length≤1000000)])
 | _=>none
theorem Mc {κ:bE} {w:World} (h:Bc κ w) {g:Nat} (hg:(g,vg)∈Gl.gl) {nm:String} (hn:Tryz.prog.globalNamed nm=some g):∃te pe,w.var? Tryz.prog nm=some #[.iface te pe]:=by
 obtain ⟨_,c,ty,fz,h2,te,pe,h3⟩:=h.gl _ hg;have h2:w.heap[g]? = _:=h2;subst h3;exact ⟨te,pe,by unfold World.var?;rw [hn];simp only [Option.bind_some,h2]⟩
theorem EG {s:W} (h:∀n,Lib.parseIntB 64 s≠.ok n):ay.intOf s=none:=by
 cases hn:ay.intOf s with
 | none=>rfl
 | some n=>exact absurd (by rw [Lib.parseIntB_64];exact (ay.qE.1 hn).1) (h n)
set_option maxHeartbeats 1000000 in
theorem Sb (s:W) (hs:s.length≤1000000) (n:Int) (h:Lib.parseIntB 64 s = .ok n) (w:World) (ht:Lib.TabIs Tryz.prog w "internal/strconv.uint64pow10" .u64 Lib.pow10Tab) :
 Calls Tryz.prog 78 #[.string ⟨s.toArray⟩] w fun e w'=>e = .returned (.tuple #[.int .i64 n,.bool (Lib.itoa n==s)])∧Below w.heap.size w w':=by
 have hz:(ByteArray.mk s.toArray).size=s.length:=by simp [ByteArray.size]
 have hb:=Lib.parseIntB_bounds h;have HP:=Lib.hid (Tryz.strconv_ParseInt_10_at64_ok ⟨s.toArray⟩ (by omega) n h w)
 have HF:=Lib.hid (fun (w1:World) (hw:w1=w∨∃t,w1=Lib.bytesWorld w 5 t)=>
  Tryz.strconv_FormatInt_10 n (by omega) (by omega) w1 (by
   rcases hw with rfl | ⟨t,rfl⟩
   ·exact ht
   ·exact Go.Joins.tab_stays yF ht (Lib.bytesWorld_below w _ t) (Nat.le_refl _)))
 have HB:=Lib.hid (fun (w1:World) (hw:w1=w∨∃t,w1=Lib.bytesWorld w 5 t)=>show Below w.heap.size w w1 from by
  rcases hw with rfl | ⟨t,rfl⟩
  ·exact Below.refl _ _
  ·exact Lib.bytesWorld_below w _ t)
 generalize Lib.itoa n=q at *;clear hb h ht hz hs
 go_enter Tryz.func78,Tryz.ntmps78
 go_wp2_with (first
  | (go_at_call 138;refine HP.out.mono ?_;rintro e w1 ⟨rfl,b1⟩)
  | (go_at_call 128;refine (HF.out _ b1).mono ?_;rintro e w2 ⟨rfl,k,os,rfl⟩))
 go_ret2
 exact ⟨rfl,(HB.out _ b1).trans (Lib.below_grow _ _ (HB.out _ b1).size k os)⟩
set_option maxHeartbeats 1000000 in
theorem Iq (s:W) (v:Int) (w:World) (hp:Calls Tryz.prog 138 #[.string ⟨s.toArray⟩,.int .i64 10,.int .i64 64] w fun e w'=>∃T p,e = .returned (.tuple #[.int .i64 v,.iface T p])∧Below w.heap.size w w') :
 Calls Tryz.prog 78 #[.string ⟨s.toArray⟩] w fun e w'=>e = .returned (.tuple #[.int .i64 v,.bool false])∧Below w.heap.size w w':=by
 have HP:=Lib.hid hp;clear hp
 go_enter Tryz.func78,Tryz.ntmps78
 go_wp2_with (first
  | (go_at_call 138;refine HP.out.mono ?_;rintro e w1 ⟨T,p,rfl,b1⟩))
 go_ret2
 exact ⟨rfl,b1⟩
theorem Sc:cK Tryz.prog 78 (e1 Zx):=by
 refine yx fun x y c hg hc=>?_;unfold Zx at hg;split at hg
 ·rename_i s;simp only [Option.some.injEq,Prod.mk.injEq] at hg;obtain ⟨rfl,rfl⟩:=hg;have hs:=of_decide_eq_true (hc (decide (s.length≤1000000)) (by simp));have hz:(ByteArray.mk s.toArray).size=s.length:=by simp [ByteArray.size]
  refine Cj (args:=[.str s]) (us:=[.string ⟨s.toArray⟩]) (v:=.tuple #[.int .i64 (EF s),.bool (ay.intOf s).isSome]) rfl rfl fun κ w hb=>?_;cases h:Lib.parseIntB 64 s with
  | ok n=>
    have e1:EF s=n:=by unfold EF;rw [h]
    have e2:(ay.intOf s).isSome=(Lib.itoa n==s):=by
     rw [Lib.parseIntB_64] at h;by_cases hq:Lib.itoa n=s
     ·rw [ay.qE.2 ⟨h,hq⟩,hq];simp
     ·have:ay.intOf s=none:=by
       cases hn:ay.intOf s with
       | none=>rfl
       | some m=>
         obtain ⟨h1,h2⟩:=ay.qE.1 hn;rw [h] at h1;injection h1 with h1;exact absurd (h1▸h2) hq
      rw [this,beq_false_of_ne hq];rfl
    rw [e1,e2];exact Sb s hs n h w (LC hb)
  | range=>
    have e1:EF s=Lib.intSat 64 s:=by unfold EF;rw [h]
    have e2:ay.intOf s=none:=EG (by intro n;rw [h];simp);rw [e1,e2];obtain ⟨te,pe,hv⟩:=Mc hb RI Et;refine Iq s (Lib.intSat 64 s) w ((Tryz.strconv_ParseInt_10_at64_range_var ⟨s.toArray⟩ (by omega) h te pe w hv).mono ?_)
    rintro e w' ⟨N,rfl,_,_,hw⟩
    exact ⟨_,_,rfl,hw⟩
  | _=>
    have e1:EF s=0:=by unfold EF;rw [h]
    have e2:ay.intOf s=none:=EG (by intro n;rw [h];simp);rw [e1,e2];obtain ⟨te,pe,hv⟩:=Mc hb RH Es;refine Iq s 0 w ((Tryz.strconv_ParseInt_10_at64_syntax_var ⟨s.toArray⟩ (by omega) h te pe w hv).mono ?_)
    rintro e w' ⟨N,rfl,_,_,hw⟩
    exact ⟨_,_,rfl,hw⟩
 ·cases hg
end Go.Proofs.YtjoefbioobdinaaGreatDoor
namespace Go.Proofs.YtjoefbioobdinaaGreatDoor
open Go.RowKit Am
open Go.ay hiding cut intOf take split
set_option maxRecDepth 100000
set_option linter.unusedVariables false
set_option linter.unusedSimpArgs false
noncomputable abbrev Zy:Code:=dY Tryz.f79
noncomputable abbrev vrC:Code:=dY Tryz.f37
noncomputable abbrev ciC:Code:=dY Tryz.f20
noncomputable abbrev flC:Code:=dY Tryz.f17
theorem ck1 (n:Int):Go.Am.C Tryz.prog 79 [.d (.agg [.int .u8 1,.int .i64 n,.str []])] [] (fun r o=>r = .d (.int .i64 0)∧o=[]):=by
 have ok:=pJ (l:=[]) .nil 1;refine aH (fn:=Tryz.f79) (body:=Zy) true (by kernel_rfl) (by kernel_rfl) (by kernel_rfl) ?_;exact WK.fin ok 1000 0 [(11,aj false),(15,aj false)] [] [(aj (match decide (3 < 1) with | true=>true | false=>!(1==1&&(n==n&&([]==([]:List UInt8)&&true)))),aj false),(aj false,aj false)] rfl (by kernel_rfl:au (Ii [] 1) true _ 1000 0 _ _ (bV 16 [.d (.agg [.int .u8 1,.int .i64 n,.str []])] [])=some (aK (0),[],_,_)) trivial (by refine ⟨?_,?_,trivial⟩<;>(first | exact ah rfl | exact ah (by simp))) ⟨rfl,rfl⟩
theorem ck2 (s:W):Go.Am.C Tryz.prog 79 [.d (.agg [.int .u8 2,.int .i64 0,.str s])] [] (fun r o=>r = .d (.int .i64 (if s.length≤1000 then 0 else 3))∧o=[]):=by
 have ok:=pJ (l:=[]) .nil 1;refine aH (fn:=Tryz.f79) (body:=Zy) true (by kernel_rfl) (by kernel_rfl) (by kernel_rfl) ?_;by_cases h:s.length≤1000
 ·skip
  exact WK.fin ok 1000 0 [(11,aj false),(15,aj false)] [] [(aj (match decide (3 < 2) with | true=>true | false=>!(2==2&&(0==0&&(s==s&&true)))),aj false),(aj (decide (1000 < ((List.length s:Nat):Int))),aj false)] rfl (by kernel_rfl:au (Ii [] 1) true _ 1000 0 _ _ (bV 16 [.d (.agg [.int .u8 2,.int .i64 0,.str s])] [])=some (aK (0),[],_,_)) trivial (by refine ⟨?_,?_,trivial⟩<;>(first | exact ah (decide_eq_false (by omega)) | exact ah (by simp))) ⟨by rw [if_pos h],rfl⟩
 ·skip
  exact WK.fin ok 1000 0 [(11,aj false),(15,aj true)] [] [(aj (match decide (3 < 2) with | true=>true | false=>!(2==2&&(0==0&&(s==s&&true)))),aj false),(aj (decide (1000 < ((List.length s:Nat):Int))),aj true)] rfl (by kernel_rfl:au (Ii [] 1) true _ 1000 0 _ _ (bV 16 [.d (.agg [.int .u8 2,.int .i64 0,.str s])] [])=some (aK (3),[],_,_)) trivial (by refine ⟨?_,?_,trivial⟩<;>(first | exact ah (decide_eq_true (by omega)) | exact ah (by simp))) ⟨by rw [if_neg h],rfl⟩
theorem ck3 (s:W):Go.Am.C Tryz.prog 79 [.d (.agg [.int .u8 3,.int .i64 0,.str s])] [] (fun r o=>r = .d (.int .i64 (if s.length≤1000 then 0 else 3))∧o=[]):=by
 have ok:=pJ (l:=[]) .nil 1;refine aH (fn:=Tryz.f79) (body:=Zy) true (by kernel_rfl) (by kernel_rfl) (by kernel_rfl) ?_;by_cases h:s.length≤1000
 ·skip
  exact WK.fin ok 1000 0 [(11,aj false),(15,aj false)] [] [(aj (match decide (3 < 3) with | true=>true | false=>!(3==3&&(0==0&&(s==s&&true)))),aj false),(aj (decide (1000 < ((List.length s:Nat):Int))),aj false)] rfl (by kernel_rfl:au (Ii [] 1) true _ 1000 0 _ _ (bV 16 [.d (.agg [.int .u8 3,.int .i64 0,.str s])] [])=some (aK (0),[],_,_)) trivial (by refine ⟨?_,?_,trivial⟩<;>(first | exact ah (decide_eq_false (by omega)) | exact ah (by simp))) ⟨by rw [if_pos h],rfl⟩
 ·skip
  exact WK.fin ok 1000 0 [(11,aj false),(15,aj true)] [] [(aj (match decide (3 < 3) with | true=>true | false=>!(3==3&&(0==0&&(s==s&&true)))),aj false),(aj (decide (1000 < ((List.length s:Nat):Int))),aj true)] rfl (by kernel_rfl:au (Ii [] 1) true _ 1000 0 _ _ (bV 16 [.d (.agg [.int .u8 3,.int .i64 0,.str s])] [])=some (aK (3),[],_,_)) trivial (by refine ⟨?_,?_,trivial⟩<;>(first | exact ah (decide_eq_true (by omega)) | exact ah (by simp))) ⟨by rw [if_neg h],rfl⟩
def Zz:DV→Option (DV×List Bool)
 | .agg [.int .u8 (.ofNat 1),.int .i64 n,.str []]=>some (.int .i64 0,[])
 | .agg [.int .u8 (.ofNat 2),.int .i64 (.ofNat 0),.str s]=>some (.int .i64 (if s.length≤1000 then 0 else 3),[])
 | .agg [.int .u8 (.ofNat 3),.int .i64 (.ofNat 0),.str s]=>some (.int .i64 (if s.length≤1000 then 0 else 3),[])
 | _=>none
theorem Sd:cK Tryz.prog 79 (e1 Zz):=by
 refine yx fun x y c hg hc=>?_;unfold Zz at hg;split at hg
 ·simp only [Option.some.injEq,Prod.mk.injEq] at hg;obtain ⟨rfl,rfl⟩:=hg;exact ck1 _
 ·simp only [Option.some.injEq,Prod.mk.injEq] at hg;obtain ⟨rfl,rfl⟩:=hg;exact ck2 _
 ·simp only [Option.some.injEq,Prod.mk.injEq] at hg;obtain ⟨rfl,rfl⟩:=hg;exact ck3 _
 ·cases hg
noncomputable def Ir:List (Nat×kK):=[(74,e2 Zj),(75,e2 Zk),(76,Ay Zr),(77,Ay Zw),(78,e1 Zx),(79,e1 Zz)]
theorem Sg:eD Tryz.prog Ir:=.cons RP (.cons RQ (.cons R5 (.cons R9 (.cons Sc (.cons Sd .nil)))))
def vrR (v:VR):RV:=.bn [.d (.agg [.int .u8 v.1,.int .i64 v.2.1,.str v.2.2.1]),.d (.int .i64 v.2.2.2)]
theorem Si:vP 6 3 NV=(0,0,[],0):=by unfold vP;rw [if_pos rfl]
theorem ZA {s:W} (h0:s≠NV) (h:Lib.hasPrefix s [120,39]=true∧Lib.hasSuffix s [39]=true∧2 < s.length):vP 6 3 s=Ik 3 6 3 (gP (inner s 2)):=by
 unfold vP;rw [if_neg h0,if_pos h]
theorem Iu {s:W} (h:Lib.hasPrefix s [39]=true):Lib.hasPrefix s [120,39]=false:=by
 cases s with
 | nil=>cases h
 | cons c r=>
   simp only [Lib.hasPrefix,List.isPrefixOf,Bool.and_true] at h
   have:=beq_iff_eq.1 h
   subst this;rfl
theorem ZB {s:W} (h0:s≠NV) (h:Lib.hasPrefix s [39]=true):vP 6 3 s=Ik 2 6 3 (yL s):=by
 unfold vP;rw [if_neg h0,if_neg (by rw [Iu h];simp),if_pos h];unfold yL;simp only [h,true_and]
theorem ZC {s:W} (h0:s≠NV) (h1:¬(Lib.hasPrefix s [120,39]=true∧Lib.hasSuffix s [39]=true∧2 < s.length)) (h:Lib.hasPrefix s [39]=false):vP 6 3 s=match ay.intOf s with
 | some n=>(1,n,[],0)
 | none=>(0,0,[],6):=by
 unfold vP;rw [if_neg h0,if_neg h1,if_neg (by rw [h];simp)];rfl
theorem Sj {s:W} (h:s≠NV):(s==[(78:UInt8),(85:UInt8),(76:UInt8),(76:UInt8)])=false:=beq_false_of_ne h
theorem Md {s:W} {n:Int} (h:ay.intOf s=some n):EF s=n:=by
 have:=(ay.qE.1 h).1
 unfold EF;rw [Lib.parseIntB_64,this]
set_option maxHeartbeats 4000000 in
theorem ZE (s:W) (hs:s.length≤1000000):Go.Am.C Tryz.prog 37 [.d (.str s)] [] (fun r o=>r=vrR (vP 6 3 s)∧o=[]):=by
 have ok:=aJ Sg;refine aH (fn:=Tryz.f37) (body:=vrC) true (by kernel_rfl) (by kernel_rfl) (by kernel_rfl) ?_;by_cases h0:s=NV
 ·subst h0;have hq:=Si;exact WK.fin ok 1000 0 [(17,aj true)] [] [(aj (NV==[(78:UInt8),(85:UInt8),(76:UInt8),(76:UInt8)]),aj true)] rfl (by kernel_rfl:au (bG Ir) true _ 1000 0 _ _ (bV 62 [.d (.str NV)] [])=some (RV.bn [RV.d (DV.agg [aU (0),aI (0),DV.str []]),aK (0)],[],_,_)) trivial ⟨(by exact ah rfl),trivial⟩ ⟨by rw [hq];rfl,rfl⟩
 have e0:=Sj h0;have b1:Nat.ble s.length 1000000000=true:=Nat.ble_eq_true_of_le (by omega);have b2:decide (s.length≤1000000)=true:=decide_eq_true hs;by_cases hx:Lib.hasPrefix s [120,39]=true∧Lib.hasSuffix s [39]=true∧2 < s.length
 ·obtain ⟨x1,x2,x3⟩:=hx;have hv:=ZA h0 ⟨x1,x2,x3⟩;have wr:IntKind.i64.wrap ((Nat.cast (R:=Int) s.length)-1)=((s.length-1:Nat):Int):=by rw [fM _ (by omega)];omega
  have c1:decide ((0:Int)≤IntKind.i64.wrap ((Nat.cast (R:=Int) s.length)-1)∧IntKind.i64.wrap ((Nat.cast (R:=Int) s.length)-1)≤(Nat.cast (R:=Int) s.length))=true:=by rw [wr];exact decide_eq_true (by omega)
  have c2:decide ((0:Int)≤2∧2≤(Nat.cast (R:=Int) (IntKind.i64.wrap ((Nat.cast (R:=Int) s.length)-1)).toNat))=true:=by rw [wr];exact decide_eq_true (by omega)
  obtain ⟨w,hw⟩:∃w,inner s 2=w:=⟨_,rfl⟩
  have e1:sJ s (some 2) (some (IntKind.i64.wrap ((Nat.cast (R:=Int) s.length)-1)))=w:=by
   rw [wr];exact hw
  have c3:decide (w.length≤1000000)=true:=by
   apply decide_eq_true;rw [←hw];unfold inner;rw [List.length_drop,List.length_take];omega
  rw [hw] at hv;cases hb:gP w with
  | none=>
    rw [hb] at hv;exact WK.fin ok 1000 0 [(17,aj false),(21,aj true),(24,aj true),(29,aj true),(37,aR w),(39,aR []),(40,aj false)] [(List.length s).ble 1000000000,decide (0≤IntKind.i64.wrap (((List.length s:Nat):Int)-1)∧IntKind.i64.wrap (((List.length s:Nat):Int)-1)≤((List.length s:Nat):Int)),decide ((0:Int)≤2∧(2:Int)≤((IntKind.i64.wrap (((List.length s:Nat):Int)-1)).toNat:Int)),decide (List.length w≤1000000)] [(aj (s==[(78:UInt8),(85:UInt8),(76:UInt8),(76:UInt8)]),aj false),(aj (Go.Lib.hasPrefix s [(120:UInt8),(39:UInt8)]),aj true),(aj (Go.Lib.hasSuffix s [(39:UInt8)]),aj true),(aj (decide (2 < ((List.length s:Nat):Int))),aj true),(aR (sJ s (Option.some (2)) (Option.some (IntKind.i64.wrap (((List.length s:Nat):Int)-1)))),aR w),(aR ((Go.ay.gP w).getD []),aR []),(aj (Go.ay.gP w).isSome,aj false)] rfl (by kernel_rfl:au (bG Ir) true _ 1000 0 _ _ (bV 62 [.d (.str s)] [])=some (RV.bn [RV.d (DV.agg [aU (0),aI (0),DV.str []]),aK (6)],[],_,_)) (by refine ⟨?_,?_,?_,?_,trivial⟩<;>(first | rfl | exact b1 | exact c1 | exact c2 | exact c3)) (by refine ⟨?_,?_,?_,?_,?_,?_,?_,trivial⟩<;>(first | exact ah e0 | exact ah x1 | exact ah x2 | exact ah (decide_eq_true (by omega)) | exact .of_eq (by rw [e1]) | exact .of_eq (by rw [hb];rfl))) ⟨by rw [hv];rfl,rfl⟩
  | some b=>
    rw [hb] at hv;by_cases hl:b.length≤1000
    ·have hq:vP 6 3 s=(3,0,b,0):=by rw [hv];simp only [Ik];rw [if_pos hl]
     have e9:(if b.length≤1000 then (0:Int) else 3)=0:=if_pos hl;exact WK.fin ok 1000 0 [(17,aj false),(21,aj true),(24,aj true),(29,aj true),(37,aR w),(39,aR b),(40,aj true),(56,aK (0))] [(List.length s).ble 1000000000,decide (0≤IntKind.i64.wrap (((List.length s:Nat):Int)-1)∧IntKind.i64.wrap (((List.length s:Nat):Int)-1)≤((List.length s:Nat):Int)),decide ((0:Int)≤2∧(2:Int)≤((IntKind.i64.wrap (((List.length s:Nat):Int)-1)).toNat:Int)),decide (List.length w≤1000000)] [(aj (s==[(78:UInt8),(85:UInt8),(76:UInt8),(76:UInt8)]),aj false),(aj (Go.Lib.hasPrefix s [(120:UInt8),(39:UInt8)]),aj true),(aj (Go.Lib.hasSuffix s [(39:UInt8)]),aj true),(aj (decide (2 < ((List.length s:Nat):Int))),aj true),(aR (sJ s (Option.some (2)) (Option.some (IntKind.i64.wrap (((List.length s:Nat):Int)-1)))),aR w),(aR ((Go.ay.gP w).getD []),aR b),(aj (Go.ay.gP w).isSome,aj true),(aK (if List.length b≤1000 then (0:Int) else 3),aK (0))] rfl (by kernel_rfl:au (bG Ir) true _ 1000 0 _ _ (bV 62 [.d (.str s)] [])=some (RV.bn [RV.d (DV.agg [aU (3),aI (0),DV.str b]),aK (0)],[],_,_)) (by refine ⟨?_,?_,?_,?_,trivial⟩<;>(first | rfl | exact b1 | exact c1 | exact c2 | exact c3)) (by refine ⟨?_,?_,?_,?_,?_,?_,?_,?_,trivial⟩<;>(first | exact ah e0 | exact ah x1 | exact ah x2 | exact ah (decide_eq_true (by omega)) | exact .of_eq (by rw [e1]) | exact .of_eq (by rw [hb];rfl) | exact .of_eq (by rw [e9]))) ⟨by rw [hq];rfl,rfl⟩
    ·have hq:vP 6 3 s=(0,0,[],3):=by rw [hv];simp only [Ik];rw [if_neg hl]
     have e9:(if b.length≤1000 then (0:Int) else 3)=3:=if_neg hl;exact WK.fin ok 1000 0 [(17,aj false),(21,aj true),(24,aj true),(29,aj true),(37,aR w),(39,aR b),(40,aj true),(56,aK (3))] [(List.length s).ble 1000000000,decide (0≤IntKind.i64.wrap (((List.length s:Nat):Int)-1)∧IntKind.i64.wrap (((List.length s:Nat):Int)-1)≤((List.length s:Nat):Int)),decide ((0:Int)≤2∧(2:Int)≤((IntKind.i64.wrap (((List.length s:Nat):Int)-1)).toNat:Int)),decide (List.length w≤1000000)] [(aj (s==[(78:UInt8),(85:UInt8),(76:UInt8),(76:UInt8)]),aj false),(aj (Go.Lib.hasPrefix s [(120:UInt8),(39:UInt8)]),aj true),(aj (Go.Lib.hasSuffix s [(39:UInt8)]),aj true),(aj (decide (2 < ((List.length s:Nat):Int))),aj true),(aR (sJ s (Option.some (2)) (Option.some (IntKind.i64.wrap (((List.length s:Nat):Int)-1)))),aR w),(aR ((Go.ay.gP w).getD []),aR b),(aj (Go.ay.gP w).isSome,aj true),(aK (if List.length b≤1000 then (0:Int) else 3),aK (3))] rfl (by kernel_rfl:au (bG Ir) true _ 1000 0 _ _ (bV 62 [.d (.str s)] [])=some (RV.bn [RV.d (DV.agg [aU (0),aI (0),DV.str []]),aK (3)],[],_,_)) (by refine ⟨?_,?_,?_,?_,trivial⟩<;>(first | rfl | exact b1 | exact c1 | exact c2 | exact c3)) (by refine ⟨?_,?_,?_,?_,?_,?_,?_,?_,trivial⟩<;>(first | exact ah e0 | exact ah x1 | exact ah x2 | exact ah (decide_eq_true (by omega)) | exact .of_eq (by rw [e1]) | exact .of_eq (by rw [hb];rfl) | exact .of_eq (by rw [e9]))) ⟨by rw [hq];rfl,rfl⟩
 cases hp:Lib.hasPrefix s [39] with
 | true=>
   have x1:=Iu hp;have hv:=ZB h0 hp;cases hb:yL s with
   | none=>
     rw [hb] at hv;exact WK.fin ok 1000 0 [(17,aj false),(21,aj false),(44,aj true),(49,aR []),(50,aj false)] [decide (List.length s≤1000000)] [(aj (s==[(78:UInt8),(85:UInt8),(76:UInt8),(76:UInt8)]),aj false),(aj (Go.Lib.hasPrefix s [(120:UInt8),(39:UInt8)]),aj false),(aj (Go.Lib.hasPrefix s [(39:UInt8)]),aj true),(aR ((Go.ay.yL s).getD []),aR []),(aj (Go.ay.yL s).isSome,aj false)] rfl (by kernel_rfl:au (bG Ir) true _ 1000 0 _ _ (bV 62 [.d (.str s)] [])=some (RV.bn [RV.d (DV.agg [aU (0),aI (0),DV.str []]),aK (6)],[],_,_)) ⟨(by first | rfl | exact b2),trivial⟩ (by refine ⟨?_,?_,?_,?_,?_,trivial⟩<;>(first | exact ah e0 | exact ah x1 | exact ah hp | exact .of_eq (by rw [hb];rfl))) ⟨by rw [hv];rfl,rfl⟩
   | some b=>
     rw [hb] at hv;by_cases hl:b.length≤1000
     ·have hq:vP 6 3 s=(2,0,b,0):=by rw [hv];simp only [Ik];rw [if_pos hl]
      have e9:(if b.length≤1000 then (0:Int) else 3)=0:=if_pos hl;exact WK.fin ok 1000 0 [(17,aj false),(21,aj false),(44,aj true),(49,aR b),(50,aj true),(56,aK (0))] [decide (List.length s≤1000000)] [(aj (s==[(78:UInt8),(85:UInt8),(76:UInt8),(76:UInt8)]),aj false),(aj (Go.Lib.hasPrefix s [(120:UInt8),(39:UInt8)]),aj false),(aj (Go.Lib.hasPrefix s [(39:UInt8)]),aj true),(aR ((Go.ay.yL s).getD []),aR b),(aj (Go.ay.yL s).isSome,aj true),(aK (if List.length b≤1000 then (0:Int) else 3),aK (0))] rfl (by kernel_rfl:au (bG Ir) true _ 1000 0 _ _ (bV 62 [.d (.str s)] [])=some (RV.bn [RV.d (DV.agg [aU (2),aI (0),DV.str b]),aK (0)],[],_,_)) ⟨(by first | rfl | exact b2),trivial⟩ (by refine ⟨?_,?_,?_,?_,?_,?_,trivial⟩<;>(first | exact ah e0 | exact ah x1 | exact ah hp | exact .of_eq (by rw [hb];rfl) | exact .of_eq (by rw [e9]))) ⟨by rw [hq];rfl,rfl⟩
     ·have hq:vP 6 3 s=(0,0,[],3):=by rw [hv];simp only [Ik];rw [if_neg hl]
      have e9:(if b.length≤1000 then (0:Int) else 3)=3:=if_neg hl;exact WK.fin ok 1000 0 [(17,aj false),(21,aj false),(44,aj true),(49,aR b),(50,aj true),(56,aK (3))] [decide (List.length s≤1000000)] [(aj (s==[(78:UInt8),(85:UInt8),(76:UInt8),(76:UInt8)]),aj false),(aj (Go.Lib.hasPrefix s [(120:UInt8),(39:UInt8)]),aj false),(aj (Go.Lib.hasPrefix s [(39:UInt8)]),aj true),(aR ((Go.ay.yL s).getD []),aR b),(aj (Go.ay.yL s).isSome,aj true),(aK (if List.length b≤1000 then (0:Int) else 3),aK (3))] rfl (by kernel_rfl:au (bG Ir) true _ 1000 0 _ _ (bV 62 [.d (.str s)] [])=some (RV.bn [RV.d (DV.agg [aU (0),aI (0),DV.str []]),aK (3)],[],_,_)) ⟨(by first | rfl | exact b2),trivial⟩ (by refine ⟨?_,?_,?_,?_,?_,?_,trivial⟩<;>(first | exact ah e0 | exact ah x1 | exact ah hp | exact .of_eq (by rw [hb];rfl) | exact .of_eq (by rw [e9]))) ⟨by rw [hq];rfl,rfl⟩
 | false=>
   have hv:=ZC h0 hx hp;obtain ⟨n,hn⟩:∃n,EF s=n:=⟨_,rfl⟩;cases hi:ay.intOf s with
   | some m=>
     rw [hi] at hv;have hm:=Md hi;rw [hn] at hm;subst hm;cases x1:Lib.hasPrefix s [120,39] with
     | false=>
       exact WK.fin ok 1000 0 [(17,aj false),(21,aj false),(44,aj false),(12,aK n),(13,aj true)] [decide (List.length s≤1000000)] [(aj (s==[(78:UInt8),(85:UInt8),(76:UInt8),(76:UInt8)]),aj false),(aj (Go.Lib.hasPrefix s [(120:UInt8),(39:UInt8)]),aj false),(aj (Go.Lib.hasPrefix s [(39:UInt8)]),aj false),(aK (Go.Proofs.YtjoefbioobdinaaGreatDoor.EF s),aK n),(aj (Go.ay.intOf s).isSome,aj true)] rfl (by kernel_rfl:au (bG Ir) true _ 1000 0 _ _ (bV 62 [.d (.str s)] [])=some (RV.bn [RV.d (DV.agg [aU (1),aI n,DV.str []]),aK (0)],[],_,_)) ⟨(by first | rfl | exact b1 | exact b2),trivial⟩ (by refine ⟨?_,?_,?_,?_,?_,trivial⟩<;>(first | exact ah e0 | exact ah x1 | exact ah hp | exact .of_eq (by rw [hn]) | exact .of_eq (by rw [hi];rfl))) ⟨by rw [hv];rfl,rfl⟩
     | true=>
       cases x2:Lib.hasSuffix s [39] with
       | false=>
         exact WK.fin ok 1000 0 [(17,aj false),(21,aj true),(24,aj false),(44,aj false),(12,aK n),(13,aj true)] [(List.length s).ble 1000000000,decide (List.length s≤1000000)] [(aj (s==[(78:UInt8),(85:UInt8),(76:UInt8),(76:UInt8)]),aj false),(aj (Go.Lib.hasPrefix s [(120:UInt8),(39:UInt8)]),aj true),(aj (Go.Lib.hasSuffix s [(39:UInt8)]),aj false),(aj (Go.Lib.hasPrefix s [(39:UInt8)]),aj false),(aK (Go.Proofs.YtjoefbioobdinaaGreatDoor.EF s),aK n),(aj (Go.ay.intOf s).isSome,aj true)] rfl (by kernel_rfl:au (bG Ir) true _ 1000 0 _ _ (bV 62 [.d (.str s)] [])=some (RV.bn [RV.d (DV.agg [aU (1),aI n,DV.str []]),aK (0)],[],_,_)) (by refine ⟨?_,?_,trivial⟩<;>(first | rfl | exact b1 | exact b2)) (by refine ⟨?_,?_,?_,?_,?_,?_,trivial⟩<;>(first | exact ah e0 | exact ah x1 | exact ah x2 | exact ah hp | exact .of_eq (by rw [hn]) | exact .of_eq (by rw [hi];rfl))) ⟨by rw [hv];rfl,rfl⟩
       | true=>
         have x3:¬2 < s.length:=fun h=>hx ⟨x1,x2,h⟩;exact WK.fin ok 1000 0 [(17,aj false),(21,aj true),(24,aj true),(29,aj false),(44,aj false),(12,aK n),(13,aj true)] [(List.length s).ble 1000000000,decide (List.length s≤1000000)] [(aj (s==[(78:UInt8),(85:UInt8),(76:UInt8),(76:UInt8)]),aj false),(aj (Go.Lib.hasPrefix s [(120:UInt8),(39:UInt8)]),aj true),(aj (Go.Lib.hasSuffix s [(39:UInt8)]),aj true),(aj (decide (2 < ((List.length s:Nat):Int))),aj false),(aj (Go.Lib.hasPrefix s [(39:UInt8)]),aj false),(aK (Go.Proofs.YtjoefbioobdinaaGreatDoor.EF s),aK n),(aj (Go.ay.intOf s).isSome,aj true)] rfl (by kernel_rfl:au (bG Ir) true _ 1000 0 _ _ (bV 62 [.d (.str s)] [])=some (RV.bn [RV.d (DV.agg [aU (1),aI n,DV.str []]),aK (0)],[],_,_)) (by refine ⟨?_,?_,trivial⟩<;>(first | rfl | exact b1 | exact b2)) (by refine ⟨?_,?_,?_,?_,?_,?_,?_,trivial⟩<;>(first | exact ah e0 | exact ah x1 | exact ah x2 | exact ah hp | exact ah (decide_eq_false (by omega)) | exact .of_eq (by rw [hn]) | exact .of_eq (by rw [hi];rfl))) ⟨by rw [hv];rfl,rfl⟩
   | none=>
     rw [hi] at hv;cases x1:Lib.hasPrefix s [120,39] with
     | false=>
       exact WK.fin ok 1000 0 [(17,aj false),(21,aj false),(44,aj false),(12,aK n),(13,aj false)] [decide (List.length s≤1000000)] [(aj (s==[(78:UInt8),(85:UInt8),(76:UInt8),(76:UInt8)]),aj false),(aj (Go.Lib.hasPrefix s [(120:UInt8),(39:UInt8)]),aj false),(aj (Go.Lib.hasPrefix s [(39:UInt8)]),aj false),(aK (Go.Proofs.YtjoefbioobdinaaGreatDoor.EF s),aK n),(aj (Go.ay.intOf s).isSome,aj false)] rfl (by kernel_rfl:au (bG Ir) true _ 1000 0 _ _ (bV 62 [.d (.str s)] [])=some (RV.bn [RV.d (DV.agg [aU (0),aI (0),DV.str []]),aK (6)],[],_,_)) ⟨(by first | rfl | exact b1 | exact b2),trivial⟩ (by refine ⟨?_,?_,?_,?_,?_,trivial⟩<;>(first | exact ah e0 | exact ah x1 | exact ah hp | exact .of_eq (by rw [hn]) | exact .of_eq (by rw [hi];rfl))) ⟨by rw [hv];rfl,rfl⟩
     | true=>
       cases x2:Lib.hasSuffix s [39] with
       | false=>
         exact WK.fin ok 1000 0 [(17,aj false),(21,aj true),(24,aj false),(44,aj false),(12,aK n),(13,aj false)] [(List.length s).ble 1000000000,decide (List.length s≤1000000)] [(aj (s==[(78:UInt8),(85:UInt8),(76:UInt8),(76:UInt8)]),aj false),(aj (Go.Lib.hasPrefix s [(120:UInt8),(39:UInt8)]),aj true),(aj (Go.Lib.hasSuffix s [(39:UInt8)]),aj false),(aj (Go.Lib.hasPrefix s [(39:UInt8)]),aj false),(aK (Go.Proofs.YtjoefbioobdinaaGreatDoor.EF s),aK n),(aj (Go.ay.intOf s).isSome,aj false)] rfl (by kernel_rfl:au (bG Ir) true _ 1000 0 _ _ (bV 62 [.d (.str s)] [])=some (RV.bn [RV.d (DV.agg [aU (0),aI (0),DV.str []]),aK (6)],[],_,_)) (by refine ⟨?_,?_,trivial⟩<;>(first | rfl | exact b1 | exact b2)) (by refine ⟨?_,?_,?_,?_,?_,?_,trivial⟩<;>(first | exact ah e0 | exact ah x1 | exact ah x2 | exact ah hp | exact .of_eq (by rw [hn]) | exact .of_eq (by rw [hi];rfl))) ⟨by rw [hv];rfl,rfl⟩
       | true=>
         have x3:¬2 < s.length:=fun h=>hx ⟨x1,x2,h⟩;exact WK.fin ok 1000 0 [(17,aj false),(21,aj true),(24,aj true),(29,aj false),(44,aj false),(12,aK n),(13,aj false)] [(List.length s).ble 1000000000,decide (List.length s≤1000000)] [(aj (s==[(78:UInt8),(85:UInt8),(76:UInt8),(76:UInt8)]),aj false),(aj (Go.Lib.hasPrefix s [(120:UInt8),(39:UInt8)]),aj true),(aj (Go.Lib.hasSuffix s [(39:UInt8)]),aj true),(aj (decide (2 < ((List.length s:Nat):Int))),aj false),(aj (Go.Lib.hasPrefix s [(39:UInt8)]),aj false),(aK (Go.Proofs.YtjoefbioobdinaaGreatDoor.EF s),aK n),(aj (Go.ay.intOf s).isSome,aj false)] rfl (by kernel_rfl:au (bG Ir) true _ 1000 0 _ _ (bV 62 [.d (.str s)] [])=some (RV.bn [RV.d (DV.agg [aU (0),aI (0),DV.str []]),aK (6)],[],_,_)) (by refine ⟨?_,?_,trivial⟩<;>(first | rfl | exact b1 | exact b2)) (by refine ⟨?_,?_,?_,?_,?_,?_,?_,trivial⟩<;>(first | exact ah e0 | exact ah x1 | exact ah x2 | exact ah hp | exact ah (decide_eq_false (by omega)) | exact .of_eq (by rw [hn]) | exact .of_eq (by rw [hi];rfl))) ⟨by rw [hv];rfl,rfl⟩
def ZF:DV→Option (RV×List Bool)
 | .str s=>some (vrR (vP 6 3 s),[decide (s.length≤1000000)])
 | _=>none
theorem Sk:cK Tryz.prog 37 (Ay ZF):=by
 refine oo fun x y c hg hc=>?_;unfold ZF at hg;split at hg
 ·rename_i s;simp only [Option.some.injEq,Prod.mk.injEq] at hg;obtain ⟨rfl,rfl⟩:=hg;exact ZE s (of_decide_eq_true (hc _ (by simp:decide (s.length≤1000000)∈[decide (s.length≤1000000)])))
 ·cases hg
noncomputable def NZ:List (Nat×kK):=[(38,e2 Zl),(21,e2 YP),(37,Ay ZF)]
theorem Sl:eD Tryz.prog NZ:=.cons RS (.cons LG (.cons Sk .nil))
theorem WL {s:W} {n:Int} (h:ay.intOf s=some n):J2 s=n∧J3 s=0:=by
 unfold J2 J3 CJ;rw [h];exact ⟨rfl,rfl⟩
theorem CU {s:W} (h:ay.intOf s=none) (h2:ay.trimmed s=[]∨(ay.trimmed s).head? = some 48∨¬(ay.trimmed s).all iY=true):J2 s=0∧J3 s=6:=by
 have e:CJ s = .none:=by unfold CJ;rw [h];exact if_pos h2
 unfold J2 J3;rw [e];exact ⟨rfl,rfl⟩
theorem Me {s:W} (h:ay.intOf s=none) (h2:¬(ay.trimmed s=[]∨(ay.trimmed s).head? = some 48∨¬(ay.trimmed s).all iY=true)):J2 s=0∧J3 s=5:=by
 have e:CJ s = .range:=by unfold CJ;rw [h];exact if_neg h2
 unfold J2 J3;rw [e];exact ⟨rfl,rfl⟩
theorem WM {a:UInt8} (h:a=48):((Nat.cast (R:=Int) a.toNat)==48)=true:=by subst h;rfl
theorem Pn {a:UInt8} (h:a≠48):((Nat.cast (R:=Int) a.toNat)==48)=false:=by
 refine beq_false_of_ne fun e=>h (UInt8.toNat_inj.1 ?_)
 have:a.toNat=48:=by omega
 exact this
set_option maxHeartbeats 4000000 in
theorem ZG (s:W) (hs:s.length≤1000000):Go.Am.C Tryz.prog 20 [.d (.str s)] [] (fun r o=>r = .bn [.d (.int .i64 (J2 s)),.d (.int .i64 (J3 s))]∧o=[]):=by
 have ok:=aJ Sl;refine aH (fn:=Tryz.f20) (body:=ciC) true (by kernel_rfl) (by kernel_rfl) (by kernel_rfl) ?_;have b2:decide (s.length≤1000000)=true:=decide_eq_true hs;cases hi:ay.intOf s with
 | some n=>
   have hv:vP 6 3 s=(1,n,[],0):=WG (by decide) (by decide) hi;obtain ⟨q1,q2⟩:=WL hi;obtain ⟨z,hz⟩:∃z:W,z=[]:=⟨_,rfl⟩;exact WK.fin ok 1000 0 [(10,RV.d (DV.agg [aU (1),aI n,DV.str z])),(11,aK (0)),(18,aj true)] [decide (List.length s≤1000000)] [(RV.d (DV.agg [aU (Go.ay.vP (6) (3) s).1,aI (Go.ay.vP (6) (3) s).snd.1,DV.str (Go.ay.vP (6) (3) s).snd.snd.1]),RV.d (DV.agg [aU (1),aI n,DV.str z])),(aK (Go.ay.vP (6) (3) s).snd.snd.2,aK (0)),(aj (match 0==0 with | true=>1==1 | false=>false),aj true)] rfl (by kernel_rfl:au (bG NZ) true _ 1000 0 _ _ (bV 35 [.d (.str s)] [])=some (RV.bn [aK n,aK (0)],[],_,_)) ⟨(by first | rfl | exact b2),trivial⟩ (by refine ⟨?_,?_,?_,trivial⟩<;>(first | exact ah rfl | exact .of_eq (by rw [hv,hz]) | exact .of_eq (by rw [hv]))) ⟨by rw [q1,q2],rfl⟩
 | none=>
   have hno:¬((vP 6 3 s).2.2.2=0∧(vP 6 3 s).1=1):=WH (by decide) (by decide) hi;obtain ⟨v,hv⟩:∃v,vP 6 3 s=v:=⟨_,rfl⟩;rw [hv] at hno;obtain ⟨k,n,z,e⟩:=v;have hno:¬(e=0∧k=1):=hno;obtain ⟨t,ht⟩:∃t,ay.trimmed s=t:=⟨_,rfl⟩;have hT:Lib.trimPrefix s [45]=t:=ht
   have hl:t.length≤1000000:=by
    rw [←ht];unfold ay.trimmed Lib.trimPrefix;split
    ·rw [List.length_drop];omega
    ·exact hs
   cases t with
   | nil=>
     obtain ⟨q1,q2⟩:=CU hi (.inl ht);rcases bo (e==0:Bool) with yM | yM
     ·skip
      exact WK.fin ok 1000 0 [(10,RV.d (DV.agg [aU k,aI n,DV.str z])),(11,aK e),(18,aj false),(22,aR []),(24,aj true),(14,aj true)] [decide (List.length s≤1000000)] [(RV.d (DV.agg [aU (Go.ay.vP (6) (3) s).1,aI (Go.ay.vP (6) (3) s).snd.1,DV.str (Go.ay.vP (6) (3) s).snd.snd.1]),RV.d (DV.agg [aU k,aI n,DV.str z])),(aK (Go.ay.vP (6) (3) s).snd.snd.2,aK e),(aj (e==0),aj true),(aj (k==1),aj false),(aR (Go.Lib.trimPrefix s [(45:UInt8)]),aR []),(aj true,aj true)] rfl (by kernel_rfl:au (bG NZ) true _ 1000 0 _ _ (bV 35 [.d (.str s)] [])=some (RV.bn [aK (0),aK (6)],[],_,_)) ⟨(by first | rfl | exact b2),trivial⟩ (by refine ⟨?_,?_,ah yM,?_,?_,?_,trivial⟩<;>(first | exact ah rfl | exact .of_eq (by rw [hv]) | exact .of_eq (by rw [hT]) | exact ah (beq_false_of_ne (fun hh=>hno ⟨by simpa using yM,hh⟩)))) ⟨by rw [q1,q2],rfl⟩
     ·skip
      exact WK.fin ok 1000 0 [(10,RV.d (DV.agg [aU k,aI n,DV.str z])),(11,aK e),(18,aj false),(22,aR []),(24,aj true),(14,aj false)] [decide (List.length s≤1000000)] [(RV.d (DV.agg [aU (Go.ay.vP (6) (3) s).1,aI (Go.ay.vP (6) (3) s).snd.1,DV.str (Go.ay.vP (6) (3) s).snd.snd.1]),RV.d (DV.agg [aU k,aI n,DV.str z])),(aK (Go.ay.vP (6) (3) s).snd.snd.2,aK e),(aj (e==0),aj false),(aj false,aj false),(aR (Go.Lib.trimPrefix s [(45:UInt8)]),aR []),(aj true,aj true)] rfl (by kernel_rfl:au (bG NZ) true _ 1000 0 _ _ (bV 35 [.d (.str s)] [])=some (RV.bn [aK (0),aK (6)],[],_,_)) ⟨(by first | rfl | exact b2),trivial⟩ (by refine ⟨?_,?_,ah yM,?_,?_,?_,trivial⟩<;>(first | exact ah rfl | exact .of_eq (by rw [hv]) | exact .of_eq (by rw [hT]) | exact ah (beq_false_of_ne (fun hh=>hno ⟨by simpa using yM,hh⟩)))) ⟨by rw [q1,q2],rfl⟩
   | cons c w=>
     have c0:decide ((0:Int)≤0∧0 < (Nat.cast (R:=Int) (c::w).length))=true:=decide_eq_true (by simp only [List.length_cons];omega);have b3:Nat.ble (c::w).length 1000000000=true:=Nat.ble_eq_true_of_le (by omega);by_cases h48:c=48
     ·obtain ⟨q1,q2⟩:=CU hi (.inr (.inl (by rw [ht,h48];rfl)));rcases bo (e==0:Bool) with yM | yM
      ·skip
       exact WK.fin ok 1000 0 [(10,RV.d (DV.agg [aU k,aI n,DV.str z])),(11,aK e),(18,aj false),(22,aR (c::w)),(24,aj false),(27,gB (c.toNat:Int)),(28,aj true),(14,aj true)] [decide (List.length s≤1000000),decide ((0:Int)≤0∧(0:Int) < ((c::w).length:Int))] [(RV.d (DV.agg [aU (Go.ay.vP (6) (3) s).1,aI (Go.ay.vP (6) (3) s).snd.1,DV.str (Go.ay.vP (6) (3) s).snd.snd.1]),RV.d (DV.agg [aU k,aI n,DV.str z])),(aK (Go.ay.vP (6) (3) s).snd.snd.2,aK e),(aj (e==0),aj true),(aj (k==1),aj false),(aR (Go.Lib.trimPrefix s [(45:UInt8)]),aR (c::w)),(aj false,aj false),(gB (((c::w).getD 0 (0:UInt8)).toNat:Int),gB (c.toNat:Int)),(aj ((c.toNat:Int)==48),aj true)] rfl (by kernel_rfl:au (bG NZ) true _ 1000 0 _ _ (bV 35 [.d (.str s)] [])=some (RV.bn [aK (0),aK (6)],[],_,_)) (by refine ⟨?_,?_,trivial⟩<;>(first | rfl | exact c0 | exact b2)) (by refine ⟨?_,?_,ah yM,?_,?_,?_,?_,?_,trivial⟩<;>(first | exact ah rfl | exact .of_eq rfl | exact .of_eq (by rw [hv]) | exact .of_eq (by rw [hT]) | exact ah (WM h48) | exact ah (beq_false_of_ne (fun hh=>hno ⟨by simpa using yM,hh⟩)))) ⟨by rw [q1,q2],rfl⟩
      ·skip
       exact WK.fin ok 1000 0 [(10,RV.d (DV.agg [aU k,aI n,DV.str z])),(11,aK e),(18,aj false),(22,aR (c::w)),(24,aj false),(27,gB (c.toNat:Int)),(28,aj true),(14,aj false)] [decide (List.length s≤1000000),decide ((0:Int)≤0∧(0:Int) < ((c::w).length:Int))] [(RV.d (DV.agg [aU (Go.ay.vP (6) (3) s).1,aI (Go.ay.vP (6) (3) s).snd.1,DV.str (Go.ay.vP (6) (3) s).snd.snd.1]),RV.d (DV.agg [aU k,aI n,DV.str z])),(aK (Go.ay.vP (6) (3) s).snd.snd.2,aK e),(aj (e==0),aj false),(aj false,aj false),(aR (Go.Lib.trimPrefix s [(45:UInt8)]),aR (c::w)),(aj false,aj false),(gB (((c::w).getD 0 (0:UInt8)).toNat:Int),gB (c.toNat:Int)),(aj ((c.toNat:Int)==48),aj true)] rfl (by kernel_rfl:au (bG NZ) true _ 1000 0 _ _ (bV 35 [.d (.str s)] [])=some (RV.bn [aK (0),aK (6)],[],_,_)) (by refine ⟨?_,?_,trivial⟩<;>(first | rfl | exact c0 | exact b2)) (by refine ⟨?_,?_,ah yM,?_,?_,?_,?_,?_,trivial⟩<;>(first | exact ah rfl | exact .of_eq rfl | exact .of_eq (by rw [hv]) | exact .of_eq (by rw [hT]) | exact ah (WM h48) | exact ah (beq_false_of_ne (fun hh=>hno ⟨by simpa using yM,hh⟩)))) ⟨by rw [q1,q2],rfl⟩
     ·cases hd:(c::w).all iY with
      | false=>
        obtain ⟨q1,q2⟩:=CU hi (.inr (.inr (by rw [ht,hd];simp)))
        have ht2:(!(Lib.trimS (c::w) ten==[]))=true:=by
         rw [Bool.not_eq_true',beq_false_of_ne];intro h;rw [Ey.1 h] at hd;cases hd
        rcases bo (e==0:Bool) with yM | yM
        ·skip
         exact WK.fin ok 1000 0 [(10,RV.d (DV.agg [aU k,aI n,DV.str z])),(11,aK e),(18,aj false),(22,aR (c::w)),(24,aj false),(27,gB (c.toNat:Int)),(28,aj false),(33,aj true),(14,aj true)] [decide (List.length s≤1000000),decide ((0:Int)≤0∧(0:Int) < ((c::w).length:Int)),(c::w).length.ble 1000000000,true,true] [(RV.d (DV.agg [aU (Go.ay.vP (6) (3) s).1,aI (Go.ay.vP (6) (3) s).snd.1,DV.str (Go.ay.vP (6) (3) s).snd.snd.1]),RV.d (DV.agg [aU k,aI n,DV.str z])),(aK (Go.ay.vP (6) (3) s).snd.snd.2,aK e),(aj (e==0),aj true),(aj (k==1),aj false),(aR (Go.Lib.trimPrefix s [(45:UInt8)]),aR (c::w)),(aj false,aj false),(gB (((c::w).getD 0 (0:UInt8)).toNat:Int),gB (c.toNat:Int)),(aj ((c.toNat:Int)==48),aj false),(aj !Go.Lib.trimS (c::w) [(48:UInt8),(49:UInt8),(50:UInt8),(51:UInt8),(52:UInt8),(53:UInt8),(54:UInt8),(55:UInt8),(56:UInt8),(57:UInt8)]==[],aj true)] rfl (by kernel_rfl:au (bG NZ) true _ 1000 0 _ _ (bV 35 [.d (.str s)] [])=some (RV.bn [aK (0),aK (6)],[],_,_)) (by refine ⟨?_,?_,?_,?_,?_,trivial⟩<;>(first | rfl | exact c0 | exact b2 | exact b3)) (by refine ⟨?_,?_,ah yM,?_,?_,?_,?_,?_,?_,trivial⟩<;>(first | exact ah rfl | exact .of_eq rfl | exact .of_eq (by rw [hv]) | exact .of_eq (by rw [hT]) | exact ah (Pn h48) | exact ah ht2 | exact ah (beq_false_of_ne (fun hh=>hno ⟨by simpa using yM,hh⟩)))) ⟨by rw [q1,q2],rfl⟩
        ·skip
         exact WK.fin ok 1000 0 [(10,RV.d (DV.agg [aU k,aI n,DV.str z])),(11,aK e),(18,aj false),(22,aR (c::w)),(24,aj false),(27,gB (c.toNat:Int)),(28,aj false),(33,aj true),(14,aj false)] [decide (List.length s≤1000000),decide ((0:Int)≤0∧(0:Int) < ((c::w).length:Int)),(c::w).length.ble 1000000000,true,true] [(RV.d (DV.agg [aU (Go.ay.vP (6) (3) s).1,aI (Go.ay.vP (6) (3) s).snd.1,DV.str (Go.ay.vP (6) (3) s).snd.snd.1]),RV.d (DV.agg [aU k,aI n,DV.str z])),(aK (Go.ay.vP (6) (3) s).snd.snd.2,aK e),(aj (e==0),aj false),(aj false,aj false),(aR (Go.Lib.trimPrefix s [(45:UInt8)]),aR (c::w)),(aj false,aj false),(gB (((c::w).getD 0 (0:UInt8)).toNat:Int),gB (c.toNat:Int)),(aj ((c.toNat:Int)==48),aj false),(aj !Go.Lib.trimS (c::w) [(48:UInt8),(49:UInt8),(50:UInt8),(51:UInt8),(52:UInt8),(53:UInt8),(54:UInt8),(55:UInt8),(56:UInt8),(57:UInt8)]==[],aj true)] rfl (by kernel_rfl:au (bG NZ) true _ 1000 0 _ _ (bV 35 [.d (.str s)] [])=some (RV.bn [aK (0),aK (6)],[],_,_)) (by refine ⟨?_,?_,?_,?_,?_,trivial⟩<;>(first | rfl | exact c0 | exact b2 | exact b3)) (by refine ⟨?_,?_,ah yM,?_,?_,?_,?_,?_,?_,trivial⟩<;>(first | exact ah rfl | exact .of_eq rfl | exact .of_eq (by rw [hv]) | exact .of_eq (by rw [hT]) | exact ah (Pn h48) | exact ah ht2 | exact ah (beq_false_of_ne (fun hh=>hno ⟨by simpa using yM,hh⟩)))) ⟨by rw [q1,q2],rfl⟩
      | true=>
        obtain ⟨q1,q2⟩:=Me hi (by rw [ht,hd];simp [h48])
        have ht2:(!(Lib.trimS (c::w) ten==[]))=false:=by
         rw [Ey.2 hd];rfl
        rcases bo (e==0:Bool) with yM | yM
        ·skip
         exact WK.fin ok 1000 0 [(10,RV.d (DV.agg [aU k,aI n,DV.str z])),(11,aK e),(18,aj false),(22,aR (c::w)),(24,aj false),(27,gB (c.toNat:Int)),(28,aj false),(33,aj false),(14,aj true)] [decide (List.length s≤1000000),decide ((0:Int)≤0∧(0:Int) < ((c::w).length:Int)),(c::w).length.ble 1000000000,true,true] [(RV.d (DV.agg [aU (Go.ay.vP (6) (3) s).1,aI (Go.ay.vP (6) (3) s).snd.1,DV.str (Go.ay.vP (6) (3) s).snd.snd.1]),RV.d (DV.agg [aU k,aI n,DV.str z])),(aK (Go.ay.vP (6) (3) s).snd.snd.2,aK e),(aj (e==0),aj true),(aj (k==1),aj false),(aR (Go.Lib.trimPrefix s [(45:UInt8)]),aR (c::w)),(aj false,aj false),(gB (((c::w).getD 0 (0:UInt8)).toNat:Int),gB (c.toNat:Int)),(aj ((c.toNat:Int)==48),aj false),(aj !Go.Lib.trimS (c::w) [(48:UInt8),(49:UInt8),(50:UInt8),(51:UInt8),(52:UInt8),(53:UInt8),(54:UInt8),(55:UInt8),(56:UInt8),(57:UInt8)]==[],aj false)] rfl (by kernel_rfl:au (bG NZ) true _ 1000 0 _ _ (bV 35 [.d (.str s)] [])=some (RV.bn [aK (0),aK (5)],[],_,_)) (by refine ⟨?_,?_,?_,?_,?_,trivial⟩<;>(first | rfl | exact c0 | exact b2 | exact b3)) (by refine ⟨?_,?_,ah yM,?_,?_,?_,?_,?_,?_,trivial⟩<;>(first | exact ah rfl | exact .of_eq rfl | exact .of_eq (by rw [hv]) | exact .of_eq (by rw [hT]) | exact ah (Pn h48) | exact ah ht2 | exact ah (beq_false_of_ne (fun hh=>hno ⟨by simpa using yM,hh⟩)))) ⟨by rw [q1,q2],rfl⟩
        ·skip
         exact WK.fin ok 1000 0 [(10,RV.d (DV.agg [aU k,aI n,DV.str z])),(11,aK e),(18,aj false),(22,aR (c::w)),(24,aj false),(27,gB (c.toNat:Int)),(28,aj false),(33,aj false),(14,aj false)] [decide (List.length s≤1000000),decide ((0:Int)≤0∧(0:Int) < ((c::w).length:Int)),(c::w).length.ble 1000000000,true,true] [(RV.d (DV.agg [aU (Go.ay.vP (6) (3) s).1,aI (Go.ay.vP (6) (3) s).snd.1,DV.str (Go.ay.vP (6) (3) s).snd.snd.1]),RV.d (DV.agg [aU k,aI n,DV.str z])),(aK (Go.ay.vP (6) (3) s).snd.snd.2,aK e),(aj (e==0),aj false),(aj false,aj false),(aR (Go.Lib.trimPrefix s [(45:UInt8)]),aR (c::w)),(aj false,aj false),(gB (((c::w).getD 0 (0:UInt8)).toNat:Int),gB (c.toNat:Int)),(aj ((c.toNat:Int)==48),aj false),(aj !Go.Lib.trimS (c::w) [(48:UInt8),(49:UInt8),(50:UInt8),(51:UInt8),(52:UInt8),(53:UInt8),(54:UInt8),(55:UInt8),(56:UInt8),(57:UInt8)]==[],aj false)] rfl (by kernel_rfl:au (bG NZ) true _ 1000 0 _ _ (bV 35 [.d (.str s)] [])=some (RV.bn [aK (0),aK (5)],[],_,_)) (by refine ⟨?_,?_,?_,?_,?_,trivial⟩<;>(first | rfl | exact c0 | exact b2 | exact b3)) (by refine ⟨?_,?_,ah yM,?_,?_,?_,?_,?_,?_,trivial⟩<;>(first | exact ah rfl | exact .of_eq rfl | exact .of_eq (by rw [hv]) | exact .of_eq (by rw [hT]) | exact ah (Pn h48) | exact ah ht2 | exact ah (beq_false_of_ne (fun hh=>hno ⟨by simpa using yM,hh⟩)))) ⟨by rw [q1,q2],rfl⟩
def ZH:DV→Option (RV×List Bool)
 | .str s=>some (.bn [.d (.int .i64 (J2 s)),.d (.int .i64 (J3 s))],[decide (s.length≤1000000)])
 | _=>none
theorem Sm:cK Tryz.prog 20 (Ay ZH):=by
 refine oo fun x y c hg hc=>?_;unfold ZH at hg;split at hg
 ·rename_i s;simp only [Option.some.injEq,Prod.mk.injEq] at hg;obtain ⟨rfl,rfl⟩:=hg;exact ZG s (of_decide_eq_true (hc _ (by simp:decide (s.length≤1000000)∈[decide (s.length≤1000000)])))
 ·cases hg
abbrev eT:Nat:=26
def Mf:kK:=fun a o=>match a,o with
 | [.d (.int .i64 w),.ptr 0 0],[.box E [.d (.int .i64 e)]]=>some (.bn [],[.box E [.d (.int .i64 (kZ e w))]],[Nat.beq E eT])
 | _,_=>none
theorem Mg:cK Tryz.prog 17 Mf:=by
 intro a o r o' c hg hc;unfold Mf at hg;split at hg
 ·rename_i k E e;simp only [Option.some.injEq,Prod.mk.injEq] at hg;obtain ⟨rfl,rfl,rfl⟩:=hg;have hE:=cB (hc (Nat.beq E eT) (by simp));subst hE;have ok:=aJ (l:=[]) .nil;refine aH (fn:=Tryz.f17) (body:=flC) true (by kernel_rfl) (by kernel_rfl) (by kernel_rfl) ?_;by_cases h6:e=6
  ·have hq:kZ e k=e:=if_pos h6;have e6:(e != 6)=false:=by rw [h6];rfl
   exact WK.fin ok 1000 0 [(4,aj false)] [] [(aj (e != 6),aj false)] rfl (by kernel_rfl:au (bG []) true _ 1000 0 _ _ (bV 10 [.d (.int .i64 k),.ptr 0 0] [.box eT [.d (.int .i64 e)]])=some (RV.bn [],[av.box 26 [aK e]],_,_)) trivial ⟨(by exact ah e6),trivial⟩ ⟨rfl,by rw [hq]⟩
  ·have e6:(e != 6)=true:=bne_iff_ne.2 h6;by_cases h0:k=0
   ·have hq:kZ e k=e:=by unfold kZ;rw [if_neg h6,if_pos h0]
    have e0:(k != 0)=false:=by rw [h0];rfl
    exact WK.fin ok 1000 0 [(4,aj true),(7,aj false)] [] [(aj (e != 6),aj true),(aj (k != 0),aj false)] rfl (by kernel_rfl:au (bG []) true _ 1000 0 _ _ (bV 10 [.d (.int .i64 k),.ptr 0 0] [.box eT [.d (.int .i64 e)]])=some (RV.bn [],[av.box 26 [aK e]],_,_)) trivial (by refine ⟨?_,?_,trivial⟩<;>(first | exact ah e6 | exact ah e0)) ⟨rfl,by rw [hq]⟩
   ·have hq:kZ e k=k:=by unfold kZ;rw [if_neg h6,if_neg h0]
    have e0:(k != 0)=true:=bne_iff_ne.2 h0;exact WK.fin ok 1000 0 [(4,aj true),(7,aj true)] [] [(aj (e != 6),aj true),(aj (k != 0),aj true)] rfl (by kernel_rfl:au (bG []) true _ 1000 0 _ _ (bV 10 [.d (.int .i64 k),.ptr 0 0] [.box eT [.d (.int .i64 e)]])=some (RV.bn [],[av.box 26 [aK k]],_,_)) trivial (by refine ⟨?_,?_,trivial⟩<;>(first | exact ah e6 | exact ah e0)) ⟨rfl,by rw [hq]⟩
 ·cases hg
abbrev tT:Nat:=4
abbrev Mh:Nat:=43
abbrev QS:Nat:=44
abbrev aT:Nat:=25
def JA:DV→DV→Option (RV×List Bool)
 | .str s,.str [32]=>some (.bn [.d (.str (ay.cut s).1),.d (.str (ay.cut s).2.1),.d (.bool (ay.cut s).2.2)],[decide (s.length≤1000000)])
 | _,_=>none
def Mi:kK:=fun a o=>match a,o with
 | [.ptr 0 0,.ptr 1 0,.ptr 2 0],[.box A [.d (.bool m)],.box F [.gI (.func f) [] [.ptr 3 0]],.box B [.d (.str r)],.box E [.d (.int .i64 e)]]=>
   some (.d (.str (oL m r)),[.box A [.d (.bool (fD m r))],.box F [.gI (.func f) [] [.ptr 3 0]],.box B [.d (.str (gH m r))],.box E [.d (.int .i64 (wh m e))]],
    [Nat.beq A tT,Nat.beq F Mh,Nat.beq f 17,Nat.beq B sT,Nat.beq E eT,decide (r.length≤1000000)])
 | _,_=>none
def Gm:kK:=fun a o=>match a,o with
 | [.ptr 0 0,.ptr 1 0],[.box S [.gI (.func g) [] [.ptr 2 0,.ptr 1 0,.ptr 3 0]],.box F [.gI (.func f) [] [.ptr 4 0]],.box A [.d (.bool m)],.box B [.d (.str r)],.box E [.d (.int .i64 e)]]=>
   some (.d (.int .i64 (lN m r)),[.box S [.gI (.func g) [] [.ptr 2 0,.ptr 1 0,.ptr 3 0]],.box F [.gI (.func f) [] [.ptr 4 0]],.box A [.d (.bool (fD m r))],.box B [.d (.str (gH m r))],.box E [.d (.int .i64 (oJ m r e))]],
    [Nat.beq A tT,Nat.beq F Mh,Nat.beq f 17,Nat.beq g 18,Nat.beq S QS,Nat.beq B sT,Nat.beq E eT,decide (r.length≤999999)])
 | _,_=>none
def ZI:Nat→List Int
 | 1=>[6]
 | 2=>[0]
 | 3=>[1]
 | 4=>[1]
 | 5=>[1]
 | 6=>[1,2,3]
 | 7=>[0,1,4]
 | 8=>[0,1]
 | 9=>[0,5]
 | 10=>[0]
 | 12=>[1]
 | 14=>[1]
 | _=>[]
def Dl (k:Nat):DV:=if ZI k=[] then .aC 0 [] true else .aC 1 ((ZI k).map fun f=>.int .i64 f) false
def JB (k:Int):W:=kw k.toNat
def Mj:DV→Option (RV×List Bool)
 | .int .i64 k=>some (.bn [.d (.str (JB k)),.d (Dl k.toNat)],[decide (1≤k∧k≤14)])
 | _=>none
noncomputable abbrev ixC:Code:=dY Tryz.f73
noncomputable abbrev scC:Code:=dY Tryz.f36
noncomputable abbrev cuC:Code:=dY Tryz.f15
noncomputable abbrev Gn:Code:=dY Tryz.f16
noncomputable abbrev tkC:Code:=dY Tryz.f18
noncomputable abbrev cnC:Code:=dY Tryz.f19
noncomputable def ZJ:List (Nat×kK):=[(130,e2 OX)]
theorem Sn:eD Tryz.prog ZJ:=.cons Ig .nil
def ZK:DV→DV→Option (DV×List Bool)
 | .str s,.str [32]=>some (.int .i64 (Lib.indexByte s 32),[])
 | _,_=>none
theorem ZL (s:W):Go.Am.C Tryz.prog 73 [.d (.str s),.d (.str [32])] [] (fun r o=>r = .d (.int .i64 (Lib.indexByte s 32))∧o=[]):=by
 have ok:=aJ Sn;refine aH (fn:=Tryz.f73) (body:=ixC) true (by kernel_rfl) (by kernel_rfl) (by kernel_rfl) ?_;by_cases h:s=[32]
 ·have e0:(([(32:UInt8)]:List UInt8)==s)=true:=by rw [h];rfl
  have hq:Lib.indexByte s 32=0:=by rw [h];rfl
  exact WK.fin ok 1000 0 [(18,aj false),(22,aj true)] [] [(aj false,aj false),(aj ([(32:UInt8)]==s),aj true)] rfl (by kernel_rfl:au (bG ZJ) true _ 1000 0 _ _ (bV 143 [.d (.str s),.d (.str [32])] [])=some (aK (0),[],_,_)) trivial (by refine ⟨?_,?_,trivial⟩<;>(first | exact ah rfl | exact ah e0)) ⟨by rw [hq],rfl⟩
 ·have e0:(([(32:UInt8)]:List UInt8)==s)=false:=beq_false_of_ne (Ne.symm h);obtain ⟨k,hk⟩:∃k,Lib.indexByte s 32=k:=⟨_,rfl⟩;exact WK.fin ok 1000 0 [(18,aj false),(22,aj false),(26,aj true),(30,aK k)] [true] [(aj false,aj false),(aj ([(32:UInt8)]==s),aj false),(aj true,aj true),(aK (Go.Lib.indexByte s (32:UInt8)),aK k)] rfl (by kernel_rfl:au (bG ZJ) true _ 1000 0 _ _ (bV 143 [.d (.str s),.d (.str [32])] [])=some (aK k,[],_,_)) ⟨(by rfl),trivial⟩ (by refine ⟨?_,?_,?_,?_,trivial⟩<;>(first | exact ah rfl | exact ah e0 | exact .of_eq (by rw [hk]))) ⟨by rw [hk],rfl⟩
theorem Sq:cK Tryz.prog 73 (e2 ZK):=by
 refine nK fun x x2 y c hg hc=>?_;unfold ZK at hg;split at hg
 ·simp only [Option.some.injEq,Prod.mk.injEq] at hg;obtain ⟨rfl,rfl⟩:=hg;exact ZL _
 ·cases hg
noncomputable def Sr:List (Nat×kK):=[(73,e2 ZK)]
theorem Po:eD Tryz.prog Sr:=.cons Sq .nil
def Pp (s:W):RV:=.bn [.d (.str (ay.cut s).1),.d (.str (ay.cut s).2.1),.d (.bool (ay.cut s).2.2)]
theorem WO (s:W) (hs:s.length≤1000000):Go.Am.C Tryz.prog 36 [.d (.str s),.d (.str [32])] [] (fun r o=>r=Pp s∧o=[]):=by
 have ok:=aJ Po;refine aH (fn:=Tryz.f36) (body:=scC) true (by kernel_rfl) (by kernel_rfl) (by kernel_rfl) ?_;rcases CQ s with ⟨e1,e2⟩ | ⟨i,hi,e1,e2⟩
 ·obtain ⟨k,hk⟩:∃k:Int,k = -1:=⟨_,rfl⟩;exact WK.fin ok 1000 0 [(10,aK k),(12,aj false)] [] [(aK (Go.Lib.indexByte s (32:UInt8)),aK k),(aj (decide ((0:Int)≤k)),aj false)] rfl (by kernel_rfl:au (bG Sr) true _ 1000 0 _ _ (bV 23 [.d (.str s),.d (.str [32])] [])=some (RV.bn [aR s,aR [],aj false],[],_,_)) trivial (by refine ⟨?_,?_,trivial⟩<;>(first | exact ah (decide_eq_false (by omega)) | exact .of_eq (by rw [e1,hk]))) ⟨by unfold Pp;rw [e2],rfl⟩
 ·obtain ⟨t1,h1⟩:∃t1,s.take i=t1:=⟨_,rfl⟩;obtain ⟨t2,h2⟩:∃t2,s.drop (i+1)=t2:=⟨_,rfl⟩;have e3:sJ s none (some (Nat.cast (R:=Int) i))=t1:=by rw [←h1];rfl
  have e4:sJ s (some (Nat.cast (R:=Int) (i+1))) none=t2:=by rw [←h2];rfl
  have c1:decide ((0:Int)≤(Nat.cast (R:=Int) i)∧(Nat.cast (R:=Int) i)≤(Nat.cast (R:=Int) s.length))=true:=decide_eq_true (by omega);have c2:decide ((0:Int)≤(Nat.cast (R:=Int) (i+1))∧(Nat.cast (R:=Int) (i+1))≤(Nat.cast (R:=Int) s.length))=true:=decide_eq_true (by omega);have v1:=dn (i:=i) (by omega);exact WK.fin ok 1000 0 [(10,aK (i:Int)),(12,aj true),(15,aR t1),(20,aK ((i+1:Nat):Int)),(21,aR t2)] [decide (0≤(i:Int)∧(i:Int)≤((List.length s:Nat):Int)),decide (0≤((i+1:Nat):Int)∧((i+1:Nat):Int)≤((List.length s:Nat):Int))] [(aK (Go.Lib.indexByte s (32:UInt8)),aK (i:Int)),(aj true,aj true),(aR (sJ s Option.none (Option.some (i:Int))),aR t1),(aK (IntKind.i64.wrap ((i:Int)+1)),aK ((i+1:Nat):Int)),(aR (sJ s (Option.some ((i+1:Nat):Int)) Option.none),aR t2)] rfl (by kernel_rfl:au (bG Sr) true _ 1000 0 _ _ (bV 23 [.d (.str s),.d (.str [32])] [])=some (RV.bn [aR t1,aR t2,aj true],[],_,_)) (by refine ⟨?_,?_,trivial⟩<;>(first | rfl | exact c1 | exact c2)) (by refine ⟨?_,?_,?_,?_,?_,trivial⟩<;>(first | exact ah rfl | exact .of_eq (by rw [e1]) | exact .of_eq (by rw [e3]) | exact .of_eq (by rw [e4]) | exact v1)) ⟨by unfold Pp;rw [e2,h1,h2],rfl⟩
theorem Pq:cK Tryz.prog 36 (VO JA):=by
 refine LM fun x x2 y c hg hc=>?_;unfold JA at hg;split at hg
 ·rename_i s;simp only [Option.some.injEq,Prod.mk.injEq] at hg;obtain ⟨rfl,rfl⟩:=hg;exact WO s (of_decide_eq_true (hc _ (by simp:decide (s.length≤1000000)∈[decide (s.length≤1000000)])))
 ·cases hg
noncomputable def tc2:List (Nat×kK):=[(36,VO JA)]
theorem Sv:eD Tryz.prog tc2:=.cons Pq .nil
theorem WQ (s:W) (hs:s.length≤1000000):Go.Am.C Tryz.prog 15 [.d (.str s),.d (.str [32])] [] (fun r o=>r=Pp s∧o=[]):=by
 have ok:=aJ Sv;refine aH (fn:=Tryz.f15) (body:=cuC) true (by kernel_rfl) (by kernel_rfl) (by kernel_rfl) ?_;have b1:decide (s.length≤1000000)=true:=decide_eq_true hs;exact WK.fin ok 1000 0 [] [decide (List.length s≤1000000)] [] rfl (by kernel_rfl:au (bG tc2) true _ 1000 0 _ _ (bV 13 [.d (.str s),.d (.str [32])] [])=some (RV.bn [aR (Go.ay.cut s).1,aR (Go.ay.cut s).snd.1,aj (Go.ay.cut s).snd.2],[],_,_)) ⟨(by first | rfl | exact b1),trivial⟩ trivial ⟨rfl,rfl⟩
theorem Pt:cK Tryz.prog 15 (VO JA):=by
 refine LM fun x x2 y c hg hc=>?_;unfold JA at hg;split at hg
 ·rename_i s;simp only [Option.some.injEq,Prod.mk.injEq] at hg;obtain ⟨rfl,rfl⟩:=hg;exact WQ s (of_decide_eq_true (hc _ (by simp:decide (s.length≤1000000)∈[decide (s.length≤1000000)])))
 ·cases hg
def gu (k:Nat):RV:=.bn [.d (.str (kw k)),.d (Dl k)]
theorem WR:Go.Am.C Tryz.prog 16 [.d (.int .i64 (1:Nat))] [] (fun r o=>r=gu 1∧o=[]):=by
 have ok:=aJ (l:=[]) .nil;refine aH (fn:=Tryz.f16) (body:=Gn) true (by kernel_rfl) (by kernel_rfl) (by kernel_rfl) ?_;exact WK.fin ok 1000 0 [] [] [] rfl (by kernel_rfl:au (bG []) true _ 1000 0 _ _ (bV 45 [.d (.int .i64 (1:Nat))] [])=some (gu 1,[],_,_)) trivial trivial ⟨rfl,rfl⟩
theorem word2:Go.Am.C Tryz.prog 16 [.d (.int .i64 (2:Nat))] [] (fun r o=>r=gu 2∧o=[]):=by
 have ok:=aJ (l:=[]) .nil;refine aH (fn:=Tryz.f16) (body:=Gn) true (by kernel_rfl) (by kernel_rfl) (by kernel_rfl) ?_;exact WK.fin ok 1000 0 [] [] [] rfl (by kernel_rfl:au (bG []) true _ 1000 0 _ _ (bV 45 [.d (.int .i64 (2:Nat))] [])=some (gu 2,[],_,_)) trivial trivial ⟨rfl,rfl⟩
theorem WS:Go.Am.C Tryz.prog 16 [.d (.int .i64 (3:Nat))] [] (fun r o=>r=gu 3∧o=[]):=by
 have ok:=aJ (l:=[]) .nil;refine aH (fn:=Tryz.f16) (body:=Gn) true (by kernel_rfl) (by kernel_rfl) (by kernel_rfl) ?_;exact WK.fin ok 1000 0 [] [] [] rfl (by kernel_rfl:au (bG []) true _ 1000 0 _ _ (bV 45 [.d (.int .i64 (3:Nat))] [])=some (gu 3,[],_,_)) trivial trivial ⟨rfl,rfl⟩
theorem WT:Go.Am.C Tryz.prog 16 [.d (.int .i64 (4:Nat))] [] (fun r o=>r=gu 4∧o=[]):=by
 have ok:=aJ (l:=[]) .nil;refine aH (fn:=Tryz.f16) (body:=Gn) true (by kernel_rfl) (by kernel_rfl) (by kernel_rfl) ?_;exact WK.fin ok 1000 0 [] [] [] rfl (by kernel_rfl:au (bG []) true _ 1000 0 _ _ (bV 45 [.d (.int .i64 (4:Nat))] [])=some (gu 4,[],_,_)) trivial trivial ⟨rfl,rfl⟩
theorem WU:Go.Am.C Tryz.prog 16 [.d (.int .i64 (5:Nat))] [] (fun r o=>r=gu 5∧o=[]):=by
 have ok:=aJ (l:=[]) .nil;refine aH (fn:=Tryz.f16) (body:=Gn) true (by kernel_rfl) (by kernel_rfl) (by kernel_rfl) ?_;exact WK.fin ok 1000 0 [] [] [] rfl (by kernel_rfl:au (bG []) true _ 1000 0 _ _ (bV 45 [.d (.int .i64 (5:Nat))] [])=some (gu 5,[],_,_)) trivial trivial ⟨rfl,rfl⟩
theorem WV:Go.Am.C Tryz.prog 16 [.d (.int .i64 (6:Nat))] [] (fun r o=>r=gu 6∧o=[]):=by
 have ok:=aJ (l:=[]) .nil;refine aH (fn:=Tryz.f16) (body:=Gn) true (by kernel_rfl) (by kernel_rfl) (by kernel_rfl) ?_;exact WK.fin ok 1000 0 [] [] [] rfl (by kernel_rfl:au (bG []) true _ 1000 0 _ _ (bV 45 [.d (.int .i64 (6:Nat))] [])=some (gu 6,[],_,_)) trivial trivial ⟨rfl,rfl⟩
theorem WW:Go.Am.C Tryz.prog 16 [.d (.int .i64 (7:Nat))] [] (fun r o=>r=gu 7∧o=[]):=by
 have ok:=aJ (l:=[]) .nil;refine aH (fn:=Tryz.f16) (body:=Gn) true (by kernel_rfl) (by kernel_rfl) (by kernel_rfl) ?_;exact WK.fin ok 1000 0 [] [] [] rfl (by kernel_rfl:au (bG []) true _ 1000 0 _ _ (bV 45 [.d (.int .i64 (7:Nat))] [])=some (gu 7,[],_,_)) trivial trivial ⟨rfl,rfl⟩
theorem WX:Go.Am.C Tryz.prog 16 [.d (.int .i64 (8:Nat))] [] (fun r o=>r=gu 8∧o=[]):=by
 have ok:=aJ (l:=[]) .nil;refine aH (fn:=Tryz.f16) (body:=Gn) true (by kernel_rfl) (by kernel_rfl) (by kernel_rfl) ?_;exact WK.fin ok 1000 0 [] [] [] rfl (by kernel_rfl:au (bG []) true _ 1000 0 _ _ (bV 45 [.d (.int .i64 (8:Nat))] [])=some (gu 8,[],_,_)) trivial trivial ⟨rfl,rfl⟩
theorem WY:Go.Am.C Tryz.prog 16 [.d (.int .i64 (9:Nat))] [] (fun r o=>r=gu 9∧o=[]):=by
 have ok:=aJ (l:=[]) .nil;refine aH (fn:=Tryz.f16) (body:=Gn) true (by kernel_rfl) (by kernel_rfl) (by kernel_rfl) ?_;exact WK.fin ok 1000 0 [] [] [] rfl (by kernel_rfl:au (bG []) true _ 1000 0 _ _ (bV 45 [.d (.int .i64 (9:Nat))] [])=some (gu 9,[],_,_)) trivial trivial ⟨rfl,rfl⟩
theorem Sw:Go.Am.C Tryz.prog 16 [.d (.int .i64 (10:Nat))] [] (fun r o=>r=gu 10∧o=[]):=by
 have ok:=aJ (l:=[]) .nil;refine aH (fn:=Tryz.f16) (body:=Gn) true (by kernel_rfl) (by kernel_rfl) (by kernel_rfl) ?_;exact WK.fin ok 1000 0 [] [] [] rfl (by kernel_rfl:au (bG []) true _ 1000 0 _ _ (bV 45 [.d (.int .i64 (10:Nat))] [])=some (gu 10,[],_,_)) trivial trivial ⟨rfl,rfl⟩
theorem Sy:Go.Am.C Tryz.prog 16 [.d (.int .i64 (11:Nat))] [] (fun r o=>r=gu 11∧o=[]):=by
 have ok:=aJ (l:=[]) .nil;refine aH (fn:=Tryz.f16) (body:=Gn) true (by kernel_rfl) (by kernel_rfl) (by kernel_rfl) ?_;exact WK.fin ok 1000 0 [] [] [] rfl (by kernel_rfl:au (bG []) true _ 1000 0 _ _ (bV 45 [.d (.int .i64 (11:Nat))] [])=some (gu 11,[],_,_)) trivial trivial ⟨rfl,rfl⟩
theorem Sz:Go.Am.C Tryz.prog 16 [.d (.int .i64 (12:Nat))] [] (fun r o=>r=gu 12∧o=[]):=by
 have ok:=aJ (l:=[]) .nil;refine aH (fn:=Tryz.f16) (body:=Gn) true (by kernel_rfl) (by kernel_rfl) (by kernel_rfl) ?_;exact WK.fin ok 1000 0 [] [] [] rfl (by kernel_rfl:au (bG []) true _ 1000 0 _ _ (bV 45 [.d (.int .i64 (12:Nat))] [])=some (gu 12,[],_,_)) trivial trivial ⟨rfl,rfl⟩
theorem SA:Go.Am.C Tryz.prog 16 [.d (.int .i64 (13:Nat))] [] (fun r o=>r=gu 13∧o=[]):=by
 have ok:=aJ (l:=[]) .nil;refine aH (fn:=Tryz.f16) (body:=Gn) true (by kernel_rfl) (by kernel_rfl) (by kernel_rfl) ?_;exact WK.fin ok 1000 0 [] [] [] rfl (by kernel_rfl:au (bG []) true _ 1000 0 _ _ (bV 45 [.d (.int .i64 (13:Nat))] [])=some (gu 13,[],_,_)) trivial trivial ⟨rfl,rfl⟩
theorem SB:Go.Am.C Tryz.prog 16 [.d (.int .i64 (14:Nat))] [] (fun r o=>r=gu 14∧o=[]):=by
 have ok:=aJ (l:=[]) .nil;refine aH (fn:=Tryz.f16) (body:=Gn) true (by kernel_rfl) (by kernel_rfl) (by kernel_rfl) ?_;exact WK.fin ok 1000 0 [] [] [] rfl (by kernel_rfl:au (bG []) true _ 1000 0 _ _ (bV 45 [.d (.int .i64 (14:Nat))] [])=some (gu 14,[],_,_)) trivial trivial ⟨rfl,rfl⟩
theorem Mk (k:Nat) (h:1≤k∧k≤14):Go.Am.C Tryz.prog 16 [.d (.int .i64 (k:Int))] [] (fun r o=>r=gu k∧o=[]):=by
 match k,h with
 | 1,_=>exact WR
 | 2,_=>exact word2
 | 3,_=>exact WS
 | 4,_=>exact WT
 | 5,_=>exact WU
 | 6,_=>exact WV
 | 7,_=>exact WW
 | 8,_=>exact WX
 | 9,_=>exact WY
 | 10,_=>exact Sw
 | 11,_=>exact Sy
 | 12,_=>exact Sz
 | 13,_=>exact SA
 | 14,_=>exact SB
 | 0,h=>omega
 | k+15,h=>omega
theorem Ml:cK Tryz.prog 16 (Ay Mj):=by
 refine oo fun x y c hg hc=>?_;unfold Mj at hg;split at hg
 ·rename_i k;simp only [Option.some.injEq,Prod.mk.injEq] at hg;obtain ⟨rfl,rfl⟩:=hg;have h:=of_decide_eq_true (hc _ (by simp:decide (1≤k∧k≤14)∈[decide (1≤k∧k≤14)]));obtain ⟨n,rfl⟩:=Int.eq_ofNat_of_zero_le (show 0≤k by omega);exact Mk n (by omega)
 ·cases hg
noncomputable def tr1:List (Nat×kK):=[(15,VO JA),(20,Ay ZH),(17,Mf)]
theorem Mq:eD Tryz.prog tr1:=.cons Pt (.cons Sm (.cons Mg .nil))
noncomputable def tr2:List (Nat×kK):=(18,Mi)::tr1
def YR (m:Bool) (r:W) (e:Int):List av:=[.box tT [.d (.bool m)],.box Mh [.gI (.func 17) [] [.ptr 3 0]],.box sT [.d (.str r)],.box eT [.d (.int .i64 e)]]
theorem SC (m:Bool) (r:W) (e:Int) (hr:r.length≤1000000):Go.Am.C Tryz.prog 18 [.ptr 0 0,.ptr 1 0,.ptr 2 0] (YR m r e) (fun q o=>q = .d (.str (oL m r))∧o=YR (fD m r) (gH m r) (wh m e)):=by
 have ok:=aJ Mq;refine aH (fn:=Tryz.f18) (body:=tkC) true (by kernel_rfl) (by kernel_rfl) (by kernel_rfl) ?_;have b1:decide (r.length≤1000000)=true:=decide_eq_true hr;cases m with
 | true=>
   exact WK.fin ok 1000 0 [] [decide (List.length r≤1000000)] [] rfl (by kernel_rfl:au (bG tr1) true _ 1000 0 _ _ (bV 17 [.ptr 0 0,.ptr 1 0,.ptr 2 0] (YR true r e))=some (aR (Go.ay.cut r).1,[av.box 4 [aj (Go.ay.cut r).snd.2],av.box 43 [RV.gI (Go.Fn.func 17) [] [RV.ptr 3 0]],av.box 9 [aR (Go.ay.cut r).snd.1],av.box 26 [aK e]],_,_)) ⟨(by first | rfl | exact b1),trivial⟩ trivial ⟨rfl,rfl⟩
 | false=>
   exact WK.fin ok 1000 0 [] [true] [] rfl (by kernel_rfl:au (bG tr1) true _ 1000 0 _ _ (bV 17 [.ptr 0 0,.ptr 1 0,.ptr 2 0] (YR false r e))=some (aR [(48:UInt8)],[av.box 4 [aj false],av.box 43 [RV.gI (Go.Fn.func 17) [] [RV.ptr 3 0]],av.box 9 [aR r],av.box 26 [aK (Go.ay.kZ e (6))]],_,_)) ⟨(by first | rfl | exact b1),trivial⟩ trivial ⟨rfl,rfl⟩
theorem Mr:cK Tryz.prog 18 Mi:=by
 intro a o r o' c hg hc;unfold Mi at hg;split at hg
 ·rename_i A m F f B r E e;simp only [Option.some.injEq,Prod.mk.injEq] at hg;obtain ⟨rfl,rfl,rfl⟩:=hg;have h1:=cB (hc (Nat.beq A tT) (by simp));have h2:=cB (hc (Nat.beq F Mh) (by simp));have h3:=cB (hc (Nat.beq f 17) (by simp));have h4:=cB (hc (Nat.beq B sT) (by simp));have h5:=cB (hc (Nat.beq E eT) (by simp));have h6:=of_decide_eq_true (hc (decide (r.length≤1000000)) (by simp));subst h1;subst h2;subst h3;subst h4;subst h5;exact SC m r e h6
 ·cases hg
theorem Ms:eD Tryz.prog tr2:=.cons Mr Mq
def ZM (m:Bool) (r:W) (e:Int):List av:=[.box QS [.gI (.func 18) [] [.ptr 2 0,.ptr 1 0,.ptr 3 0]],.box Mh [.gI (.func 17) [] [.ptr 4 0]],.box tT [.d (.bool m)],.box sT [.d (.str r)],.box eT [.d (.int .i64 e)]]
theorem Pv (m:Bool) (r:W) (e:Int) (hr:r.length≤1000000-1):Go.Am.C Tryz.prog 19 [.ptr 0 0,.ptr 1 0] (ZM m r e) (fun q o=>q = .d (.int .i64 (lN m r))∧o=ZM (fD m r) (gH m r) (oJ m r e)):=by
 have ok:=aJ Ms;refine aH (fn:=Tryz.f19) (body:=cnC) true (by kernel_rfl) (by kernel_rfl) (by kernel_rfl) ?_;have b1:decide (r.length≤1000000)=true:=decide_eq_true (by omega);have b2:decide ((oL m r).length≤1000000)=true:=decide_eq_true (by have:=CS m r;omega);exact WK.fin ok 1000 0 [] [true,true,true,true,true,decide (List.length r≤1000000),decide (List.length (Go.ay.oL m r)≤1000000),true] [] rfl (by kernel_rfl:au (bG tr2) true _ 1000 0 _ _ (bV 15 [.ptr 0 0,.ptr 1 0] (ZM m r e))=some (aK (Go.ay.J2 (Go.ay.oL m r)),[av.box 44 [RV.gI (Go.Fn.func 18) [] [RV.ptr 2 0,RV.ptr 1 0,RV.ptr 3 0]],av.box 43 [RV.gI (Go.Fn.func 17) [] [RV.ptr 4 0]],av.box 4 [aj (Go.ay.fD m r)],av.box 9 [aR (Go.ay.gH m r)],av.box 26 [aK (Go.ay.kZ (Go.ay.wh m e) (Go.ay.J3 (Go.ay.oL m r)))]],_,_)) (by refine ⟨?_,?_,?_,?_,?_,?_,?_,?_,trivial⟩<;>(first | rfl | exact b1 | exact b2)) trivial ⟨rfl,rfl⟩
theorem JC:cK Tryz.prog 19 Gm:=by
 intro a o r o' c hg hc;unfold Gm at hg;split at hg
 ·rename_i S g F f A m B r E e;simp only [Option.some.injEq,Prod.mk.injEq] at hg;obtain ⟨rfl,rfl,rfl⟩:=hg;have h1:=cB (hc (Nat.beq A tT) (by simp));have h2:=cB (hc (Nat.beq F Mh) (by simp));have h3:=cB (hc (Nat.beq f 17) (by simp));have h7:=cB (hc (Nat.beq g 18) (by simp));have h8:=cB (hc (Nat.beq S QS) (by simp));have h4:=cB (hc (Nat.beq B sT) (by simp));have h5:=cB (hc (Nat.beq E eT) (by simp));have h6:=of_decide_eq_true (hc (decide (r.length≤999999)) (by simp));subst h1;subst h2;subst h3;subst h4;subst h5;subst h7;subst h8;exact Pv m r e (by omega)
 ·cases hg
end Go.Proofs.YtjoefbioobdinaaGreatDoor
namespace Go.Am
open Go.RowKit
variable [Gl]
theorem aA.CV {κ:bE} {φ:bP} {w:World} {s:cu} {a:Act} (F:aA κ φ w s a) {i j sl T ty sz sz' : Nat} {cs:List RV} (hO:s.O i=some (.box T cs)) (hj:cs[j]? = some (.d (.aC sz' [] true))) (hs:s.O sl=none) :
 aA κ (iG φ sl .nil) w { s with O:=bF (bF s.O sl (some (.arr ty sz []))) i (some (.box T (cs.set j (.own sl sz)))) } a∧Kp φ s.O (iG φ sl .nil) (bF (bF s.O sl (some (.arr ty sz []))) i (some (.box T (cs.set j (.own sl sz))))):=by
 have hne:i≠sl:=fun e=>by subst e;rw [hO] at hs;cases hs
 have hun:φ sl = .un:=by have:=F.objs sl;rw [hs] at this;exact this
 obtain ⟨q1,q2,_⟩:=F.wG (i:=sl) (p:=.arr ty sz []) (κ':=κ) (φ':=iG φ sl .nil) (w':=w) (Nat.le_refl _) (fun _ h=>h) (fun _ _ _ _ h=>h) (fun _ _ h=>h) (fun _ _ _ _=>rfl)
  (fun j hj=>lY _ _ hj) (fun h=>absurd hun h) (fun _ c _ fz hc=>⟨c,fz,hc,rfl⟩) (fun h=>absurd hun h) F.bnd.lt (fun M=>.inl ⟨aS _ _ _,rfl⟩)
 have Qu:(bF s.O sl (some (.arr ty sz []))) i=some (.box T cs):=by rw [dP _ _ hne];exact hO
 have hM:dS κ (iG φ sl .nil) (bF s.O sl (some (.arr ty sz []))) w.heap κ (iG φ sl .nil) (bF (bF s.O sl (some (.arr ty sz []))) i (some (.box T (cs.set j (.own sl sz))))) w.heap:=
  ⟨fun _ hb=>⟨hb,rfl⟩,fun _ c _ fz hc=>⟨c,fz,hc,rfl⟩,fun _ _=>rfl,fun k n _ hn=>by
    by_cases e:k=i
    ·subst e;rw [bN] at hn;simp [av.dB] at hn
    ·rw [dP _ _ e] at hn;exact hn⟩
 refine ⟨⟨fun x=>(q1.regs x).mono hM,fun k=>?_,q1.bnd,q1.n,q1.df.mono hM⟩,q2.kp.trans hM.kp⟩;dsimp only;by_cases e:k=i
 ·subst e;rw [bN];have ho:=q1.objs k;simp only at ho;rw [Qu] at ho;obtain ⟨b,c,h1,h2,h3,h4,h5,h6⟩:=ho;refine ⟨b,c,h1,h2,h3,by simpa using h4,h5,fun n x v hx hv=>?_⟩;rw [List.getElem?_set] at hx;by_cases e:j=n
  ·subst e;have hr:=h6 j _ v hj hv
   have hx' : x = .own sl sz:=by
    split at hx
    ·split at hx
     ·simpa using hx.symm
     ·simp at hx
    ·exact absurd rfl (by assumption)
   subst hx';cases hr with
   | d hr=>
     cases hr with
     | iU hf=>have:=(hf rfl).1;subst this;exact .gL (aS _ _ _)
     | aC _ _ hf hc _ _ _=>have:=(hf rfl).1;simp only [List.length_nil] at this;subst this;exact .gL (aS _ _ _)
  ·rw [if_neg e] at hx;exact (h6 n x v hx hv).mono hM
 ·rw [dP _ _ e];exact (q1.objs k).mono hM (fun b hb=>⟨hb,rfl⟩) rfl
theorem WK.CV {P:Program} {m:Nat} {k:List It} {s s' : cu} {Q:cu→Prop} {i j sl T ty sz sz' : Nat} {cs:List RV} (hO:s.O i=some (.box T cs)) (hj:cs[j]? = some (.d (.aC sz' [] true))) (hs:s.O sl=none)
 (he:s' = { s with O:=bF (bF s.O sl (some (.arr ty sz []))) i (some (.box T (cs.set j (.own sl sz)))) }) (hk:WK P m k s' Q):WK P m k s Q:=by
 subst he;intro κ φ w a F b fs;obtain ⟨F',K⟩:=F.CV (ty:=ty) (sz:=sz) hO hj hs;obtain ⟨e,a',w',κ',φ',s',h1,h2,h3,h4,h5,h6⟩:=hk κ _ w a F' b fs;exact ⟨e,a',w',κ',φ',s',h1,h2,h3,h4,(K.m m).trans h5,h6⟩
end Go.Am
