/-
  Texts that the claim leans on: N2, N3, N4, Sort, N10, N8, ConBack, ConFit, AmTw, AmLw, AmCl.
-/
import Derived.Test.YtjoefbioobdinaaGreatDoorProg
import Derived.Test.YtjoefbioobdinaaGreatDoorkh
import Derived.Test.YtjoefbioobdinaaGreatDoorki
import Derived.Test.YtjoefbioobdinaaGreatDoorkk
import Derived.Lib.Builder
import Derived.Lib.UnsafeStr
import Derived.Lib.Hide
import Derived.RegionTactic
import Derived.WalkKit
import Derived.Laws.Externs
import Derived.MapKept
import Derived.Lib.MakeNoZero
import Derived.Shelf.SlGeneric
import Derived.Shelf.SlIterI.Nil
import Derived.Shelf.SortM.Plain
import Derived.Shelf.SortM.SortNone
import Derived.Ground.GgzProg
import Derived.Ground.SlgmProg
import Derived.Maps.Keyed
import Derived.Maps.Range
import Derived.Lib.LaidTab
import Derived.LaidLaws
set_option linter.unusedSimpArgs false
set_option linter.unusedVariables false
namespace Go.Proofs.YtjoefbioobdinaaGreatDoor
open Go.RowKit Am
set_option maxRecDepth 100000
theorem tu:(Tryz.prog.info? 135).map (fun i=>decide (i.size≠0))=some true:=by kernel_rfl
theorem Cn:liesAt Tryz.prog Tryz.prog.depth 135 (2 / Tryz.prog.cellsOf 135) 0 135 1=true:=by kernel_rfl
theorem MW:liesAt Tryz.prog Tryz.prog.depth 653 (2 / Tryz.prog.cellsOf 653) 0 135 1=true:=by kernel_rfl
def zf (T:Nat):Bool:=Nat.beq T 135||Nat.beq T 653
theorem SC {T:Nat} (h:zf T=true):liesAt Tryz.prog Tryz.prog.depth T (2 / Tryz.prog.cellsOf T) 0 135 1=true:=by
 simp only [zf,Bool.or_eq_true] at h;rcases h with h | h
 ·rw [bQ h];exact Cn
 ·rw [bQ h];exact MW
theorem Co:Tryz.prog.cellsOf 5=1:=by kernel_rfl
set_option maxHeartbeats 1000000 in
theorem FU (b:Nat) (w:World) (h0:w.cell? ⟨b,0,none⟩=some (.pointer (some ⟨b,0,none⟩))) :
 Calls Tryz.prog 144 #[.pointer (some ⟨b,0,none⟩)] w fun e w'=>e = .returned (.tuple #[])∧w'=w:=by
 obtain ⟨j,hj,_⟩:=Option.map_eq_some_iff.1 tu
 go_enter Tryz.func144,Tryz.ntmps144
 go_wp2
 rw [Lib.run_neq_ptr_same w _ Tryz.underlying133 hj]
 go_wp2
 go_end0
 exact ⟨rfl,rfl⟩
set_option maxHeartbeats 1000000 in
theorem Cq {T:Nat} (hT:zf T=true) (b:Nat) (w:World) (h0:w.cell? ⟨b,0,none⟩=some (.pointer none)) (hsh:w.shape? b=some (T,2)) (hfz:w.frozen? ⟨b,0,none⟩=false) :
 Calls Tryz.prog 144 #[.pointer (some ⟨b,0,none⟩)] w fun e w'=>e = .returned (.tuple #[])∧w'=w.setCell ⟨b,0,none⟩ (.pointer (some ⟨b,0,none⟩)):=by
 obtain ⟨j,hj,hjs⟩:=Option.map_eq_some_iff.1 tu
 go_enter Tryz.func144,Tryz.ntmps144
 go_wp2
 rw [Lib.run_to_unsafe w ⟨b,0,none⟩ Tryz.underlying133 Tryz.underlying302 hj (by simpa using hjs) hsh (Nat.zero_lt_succ 1)];simp only [Result.andThen];rw [Oper.upon_value]
 go_wp2
 rw [run_callFunc_extern Tryz.func204 (by kernel_rfl) (by kernel_rfl) (by kernel_rfl) (e:=Extern.AbiNoEscape.same) (by kernel_rfl)];rw [Lib.run_noEscape];simp only [Result.andThen];rw [Oper.upon_value]
 go_wp2
 rw [Lib.run_from_unsafe w ⟨b,0,none⟩ Tryz.underlying302 Tryz.underlying133 hj hsh (SC hT)];simp only [Result.andThen];rw [Oper.upon_value]
 go_wp2
 go_end0
 exact ⟨rfl,rfl⟩
set_option maxHeartbeats 2000000 in
theorem Cr {T:Nat} (b g cap n0:Nat) (l:List UInt8) (p:Value) (w:World) (Q:World→Prop) (fz:Nat×Nat) (cur:Array Value) (hne:l≠[]) (hcap:l.length≤cap) (h63:l.length≤9223372036854775807)
 (hb:w.heap[b]? = some (.cells #[p,.slice (some ⟨g,0,none⟩) l.length cap] T (0,0))) (hg:w.heap[g]? = some (.cells cur 5 fz)) (hsz:cur.size=n0) (hn0:l.length≤n0)
 (hcell:∀(j:Nat) (y:UInt8),l[j]? = some y→w.cell? ((⟨g,0,none⟩:Addr).add j)=some (.int .u8 y.toNat)) (hQ:Q (w.drew.freeze ⟨g,0,none⟩ l.length)) :
 Calls Tryz.prog 90 #[.pointer (some ⟨b,0,none⟩)] w fun e w'=>e = .returned (.string ⟨l.toArray⟩)∧Q w':=by
 have hpos:0 < l.length:=List.length_pos_iff.2 hne
 have c1:w.drew.cell? ⟨b,1,none⟩=some (.slice (some ⟨g,0,none⟩) l.length cap):=by
  have:w.drew.heap[b]? = some (.cells #[p,.slice (some ⟨g,0,none⟩) l.length cap] T (0,0)):=hb
  rw [Lib.cell_of_heap this];rfl
 have hSD:(Builtin.unsafeSliceData_ #[130] 212 #[.slice (some ⟨g,0,none⟩) l.length cap]).run Tryz.prog w.drew = .ok (.pointer (some ⟨g,0,none⟩)) w.drew:=
  Lib.run_unsafeSliceData_row _ _ _ _ _ _ (by omega)
 have hUS:(Builtin.unsafeString_ #[212,3] 9 #[.pointer (some ⟨g,0,none⟩),.int .i64 l.length]).run Tryz.prog w.drew = .ok (.string ⟨l.toArray⟩) (w.drew.freeze ⟨g,0,none⟩ l.length):=
  Lib.run_unsafeString_row w.drew _ _ _ 5 Tryz.underlying212 Co g cur.size (by have hg' : w.drew.heap[g]? = some (.cells cur 5 fz):=hg;simp [World.shape?,hg']) l hne (by omega) h63 hcell
 have HQ:=Lib.hid hQ;clear hQ hcell hg hb hsz hn0 hcap h63 hne hpos
 go_enter Tryz.func90,Tryz.ntmps90
 go_wp2
 go_region
 all_goals (go_wp2;go_ret;exact ⟨rfl,HQ.out⟩)
set_option maxHeartbeats 2000000 in
theorem Ct {T:Nat} (b:Nat) (p:Value) (w:World) (Q:World→Prop) (hb:w.heap[b]? = some (.cells #[p,.slice none 0 0] T (0,0))) (hQ:Q w.drew) :
 Calls Tryz.prog 90 #[.pointer (some ⟨b,0,none⟩)] w fun e w'=>e = .returned (.string ⟨#[]⟩)∧Q w':=by
 have hUS:∀W:World,(Builtin.unsafeString_ #[212,3] 9 #[.pointer none,.int .i64 0]).run Tryz.prog W = .ok (.string .empty) W:=fun W=>Lib.run_unsafeString_none W _ _ _ none
 have c1:w.drew.cell? ⟨b,1,none⟩=some (.slice none 0 0):=by
  have:w.drew.heap[b]? = some (.cells #[p,.slice none 0 0] T (0,0)):=hb
  rw [Lib.cell_of_heap this];rfl
 have hSD:(Builtin.unsafeSliceData_ #[130] 212 #[.slice none 0 0]).run Tryz.prog w.drew = .ok (.pointer none) w.drew:=rfl;have HQ:=Lib.hid hQ;clear hb hQ
 go_enter Tryz.func90,Tryz.ntmps90
 go_wp2
 go_region
 all_goals (go_wp2;go_ret;exact ⟨rfl,HQ.out⟩)
theorem je {c:Array Value} (h:c.size=2):∃x y,c = #[x,y]:=by
 refine ⟨c[0],c[1],?_⟩;apply Array.ext
 ·simpa using h
 ·intro i h1 h2
  have:i=0∨i=1:=by simp at h2;omega
  rcases this with rfl | rfl<;>rfl
theorem yu (p q:au) (r:List au):bq (aN (p::r)) 0 (some q)=aN (q::r):=by
 funext i;cases i with
 | zero=>simp [bq,aN]
 | succ i=>simp [bq,aN]
theorem yw (p q q' : au) (r:List au):bq (aN (p::q::r)) 1 (some q')=aN (p::q'::r):=by
 funext i
 match i with
 | 0=>simp [bq,aN]
 | 1=>simp [bq,aN]
 | i+2=>simp [bq,aN]
theorem FV {T:Nat} (hT:zf T=true) (x y:RV) (r:List au) (hx:x = .d .aD∨x = .ptr 0 0):C Tryz.prog 144 [.ptr 0 0] (.box T [x,y]::r) (fun v o=>v = .d (.bI [])∧o = .box T [.ptr 0 0,y]::r):=by
 intro κ φ w vs h1 h2 h3 h4;have hs:vs.size=1:=by simpa using h3
 have e1:vs[0]? = some vs[0]:=by simp [show 0 < vs.size by omega]
 have r0:=h4 0 _ _ rfl e1
 have hvs:vs = #[vs[0]]:=by
  apply Array.ext
  ·simpa using hs
  ·intro i hi hi2;simp at hi2;subst hi2;rfl
 rw [hvs];generalize vs[0]=v0 at r0;clear e1 hvs;cases r0 with
 | ptr hφ=>
 rename_i b;have ho:=h1 0;have et:aN (au.box T [x,y]::r) 0=some (.box T [x,y]):=rfl;rw [et] at ho;obtain ⟨b',c,g1,g2,g3,g4,g5,g6⟩:=ho;rw [g1] at hφ;injection hφ with hφ;subst hφ;obtain ⟨c0,c1,rfl⟩:=je (by simpa using g4);have q0:=g6 0 x c0 rfl rfl;have q1:=g6 1 y c1 rfl rfl;have F:=jM h1 h2;rcases hx with rfl | rfl
 ·cases q0 with
  | d hr=>
  cases hr;refine (Cq hT b' w (by rw [Lib.cell_of_heap g3];rfl) (by simp [World.shape?,g3]) (Lib.frozen_of_heap g3 0)).mono ?_
  rintro e w' ⟨rfl,rfl⟩
  rw [lg g3]
  obtain ⟨p1,p2,p3⟩:=F.write (i:=0) (p:=.box T [.ptr 0 0,y]) (o:=.cells #[.pointer (some ⟨b',0,none⟩),c1] T (0,0)) g2 g1
   (fun c ty fz hh=>by rw [g3] at hh;injection hh with hh;injection hh with a1 a2 a3;subst a1;subst a2;exact ⟨_,_,rfl,rfl⟩) (fun n hn=>by simp [au.cB] at hn)
   (fun M=>⟨b',_,g1,g2,dx g3,rfl,fun v hv=>by
     simp at hv;rcases hv with rfl | rfl
     ·rfl
     ·exact g5 _ (by simp),fun j x v hx hv=>by
     match j,hx,hv with
     | 0,hx,hv=>simp at hx hv;subst hx;subst hv;exact .ptr g1
     | 1,hx,hv=>simp at hx hv;subst hx;subst hv;exact q1.mono M
     | j+2,hx,hv=>simp at hx⟩)
  have Jh:bq (aN (au.box T [.d .aD,y]::r)) 0 (some (.box T [.ptr 0 0,y]))=aN (.box T [.ptr 0 0,y]::r):=yu _ _ _;simp only [Jh] at p1 p2;exact ⟨_,_,_,κ,φ,rfl,⟨rfl,rfl⟩,.d (.bI rfl (by simp)),p1.objs,p1.bnd,by simp,p3,p2.kp⟩
 ·cases q0 with
  | ptr hp=>
  rename_i b2
  have:b2=b':=by rw [g1] at hp;injection hp with hp;exact hp.symm
  subst this;refine (FU b2 w (by rw [Lib.cell_of_heap g3];rfl)).mono ?_
  rintro e w' ⟨rfl,rfl⟩
  exact ⟨_,_,_,κ,φ,rfl,⟨rfl,rfl⟩,.d (.bI rfl (by simp)),h1,h2,by simp,Fr.refl _ _,Kp.refl _ _⟩
def Ez:DV→Bool
 | .int .u8 n=>decide (0≤n∧n < 256)
 | _=>false
theorem oL {x:DV} (h:Ez x=true):x = .int .u8 (x.byte.toNat:Int):=by
 unfold Ez at h;split at h
 ·rename_i n;simp only [decide_eq_true_eq] at h;simp only [DV.byte,DV.int.injEq,true_and]
  have:n.toNat < 256:=by omega
  rw [UInt8.toNat_ofNat_of_lt' (by simpa using this)];omega
 ·cases h
theorem Ef {x:DV} (h:Ez x=true):x.cells=[x]:=by rw [oL h];rfl
def PK:RV→Bool
 | .d x=>Ez x
 | _=>false
def vL:RV→UInt8
 | .d x=>x.byte
 | _=>0
theorem Jm {x:RV} (h:PK x=true):x = .d (.int .u8 ((vL x).toNat:Int)):=by
 unfold PK at h;split at h
 ·rename_i y;simp only [vL];rw [←oL h]
 ·cases h
theorem Mi {T:Nat} (p:RV) (len:Nat) (cap:Option Nat) (cs:List RV) (r:List au) (hb:(cs.take len).all PK=true) (hlen:len≤cs.length) (hne:0 < len) (hbig:len≤1099511627776):C Tryz.prog 90 [.ptr 0 0] (.box T [p,.sl 1 1 0 len cap] :: .bL 5 cs::r)
 (fun v o=>v = .d (.str ((cs.take len).map vL))∧o = .box T [p,.sl 1 1 0 len cap] :: .gone::r):=by
 intro κ φ w vs h1 h2 h3 h4;obtain ⟨v0,rfl,r0⟩:=arg1 h3 h4;cases r0 with
 | ptr hφ=>
 rename_i b;have ho:=h1 0;have et:aN (au.box T [p,.sl 1 1 0 len cap] :: .bL 5 cs::r) 0=some (.box T [p,.sl 1 1 0 len cap]):=rfl;rw [et] at ho;obtain ⟨b',c,g1,g2,g3,g4,g5,g6⟩:=ho;rw [g1] at hφ;injection hφ with hφ;subst hφ;obtain ⟨c0,c1,rfl⟩:=je (by simpa using g4);have q1:=g6 1 (.sl 1 1 0 len cap) c1 rfl rfl;have ho1:=h1 1;have Yp:aN (au.box T [p,.sl 1 1 0 len cap] :: .bL 5 cs::r) 1=some (.bL 5 cs):=rfl;rw [Yp] at ho1;obtain ⟨g,cur,fz,k1,k2,k3,k4,k5⟩:=ho1;cases q1 with
 | sl hp hb0 ho' hs hl hcc hnn=>
   rename_i g' o' eB c' ty' tL
   have:g'=g:=by rw [k1] at hp;injection hp with hp;exact hp.symm
   subst this;have hoo:o'=0:=by rcases ho' with h | h<;>omega
   subst hoo;rw [k3] at hb0;injection hb0 with hb0;injection hb0 with a1 a2 a3;subst a1;subst a2;subst a3;have hlm:((cs.take len).map vL).length=len:=by simp;omega
   have F:=jM h1 h2;obtain ⟨k51,Zn⟩:=k5
   have hcells:∀(j:Nat) (y:UInt8),((cs.take len).map vL)[j]? = some y→w.cell? ((⟨g',0,none⟩:Addr).add j)=some (.int .u8 y.toNat):=by
    intro j y hy;have hj:j < len:=by have:=(List.getElem?_eq_some_iff.1 hy).1;omega
    have hx:cs[j]? = some cs[j]:=by simp [show j < cs.length by omega]
    have hxt:(cs.take len)[j]? = some cs[j]:=by rw [List.getElem?_take,if_pos hj];exact hx
    have hB:=List.all_eq_true.1 hb cs[j] (List.mem_of_getElem? hxt);have hcj:cur[j]? = some cur[j]:=by simp [show j < cur.size by omega]
    have hd:=(Zn j cs[j] cur[j] hx (by rw [Nat.zero_add];exact hcj)).1;rw [Jm hB] at hd;rw [gy,Am.oW k3,Nat.zero_add,hcj];have VB:y=vL cs[j]:=by rw [List.getElem?_map,hxt] at hy;simpa using hy.symm
    subst VB;generalize cur[j]=cv at hd;cases hd with
    | d hd=>cases hd;rfl
   have hw' : ∀(k:Nat),k≠g'→(w.drew.freeze ⟨g',0,none⟩ len).heap[k]? = w.heap[k]?:=by
    intro k hk;unfold World.freeze;split
    ·rfl
    ·simp only [Array.getElem?_modify];rw [if_neg (fun e=>hk e.symm)];rfl
   have hwg:∃Qh,(w.drew.freeze ⟨g',0,none⟩ len).heap[g']? = some (.cells cur 5 Qh):=by
    have WG : w.drew.heap[g']? = some (.cells cur 5 fz):=k3;unfold World.freeze;split
    ·exact ⟨_,WG⟩
    ·simp only [Array.getElem?_modify,WG];simp
   have hsz:(w.drew.freeze ⟨g',0,none⟩ len).heap.size=w.heap.size:=by unfold World.freeze;split<;>simp
   have hos:(w.drew.freeze ⟨g',0,none⟩ len).os=w.os∧(w.drew.freeze ⟨g',0,none⟩ len).output=w.output:=by unfold World.freeze;split<;>exact ⟨rfl,rfl⟩
   refine (Cr b' g' eB cur.size ((cs.take len).map vL) c0 w (fun w'=>w'=w.drew.freeze ⟨g',0,none⟩ len) fz cur (by intro e;rw [e] at hlm;simp at hlm;omega) (by rw [hlm];exact hl) (by rw [hlm];omega) (by rw [hlm];exact g3) k3 rfl (by rw [hlm];omega) hcells (by rw [hlm])).mono ?_
   rintro e w' ⟨rfl,rfl⟩
   obtain ⟨Qh,hwg⟩:=hwg
   obtain ⟨p1,p2,p3⟩:=F.vU (i:=1) (p:=.gone) (κ':=κ) (φ':=φ) (w':=w.drew.freeze ⟨g',0,none⟩ len) (by omega) (fun _ h=>h) (fun _ _ _ _ h=>h) (fun _ _ h=>h)
    (fun k _ hk _=>hw' k (fun e=>by subst e;exact hk k2)) (fun _ _=>rfl) (fun _=>rfl)
    (fun k c ty fz hk=>by
      by_cases e:k=g'
      ·subst e;rw [k3] at hk;injection hk with hk;injection hk with a1 a2 a3;subst a1;subst a2;exact ⟨_,_,hwg,rfl⟩
      ·exact ⟨c,fz,by rw [hw' k e];exact hk,rfl⟩) (fun _ n hn=>by simp [au.cB] at hn) (fun k hk=>by rw [hsz];exact h2.lt k hk) (fun _=>trivial) hos
   have Jh:bq (aN (au.box T [p,.sl 1 1 0 len cap] :: .bL 5 cs::r)) 1 (some .gone)=aN (.box T [p,.sl 1 1 0 len cap] :: .gone::r):=yw _ _ _ _;simp only [Jh] at p1 p2;exact ⟨_,_,_,κ,φ,rfl,⟨rfl,rfl⟩,.d (.str _),p1.objs,p1.bnd,by simp,p3,p2.kp⟩
theorem FW {T:Nat} (p:RV) (r:List au):C Tryz.prog 90 [.ptr 0 0] (.box T [p,.d (.aL 0 [] true)]::r)
 (fun v o=>v = .d (.str [])∧o = .box T [p,.d (.aL 0 [] true)]::r):=by
 intro κ φ w vs h1 h2 h3 h4;have hs:vs.size=1:=by simpa using h3
 have e1:vs[0]? = some vs[0]:=by simp [show 0 < vs.size by omega]
 have r0:=h4 0 _ _ rfl e1
 have hvs:vs = #[vs[0]]:=by
  apply Array.ext
  ·simpa using hs
  ·intro i hi hi2;simp at hi2;subst hi2;rfl
 rw [hvs];generalize vs[0]=v0 at r0;clear e1 hvs;cases r0 with
 | ptr hφ=>
 rename_i b;have ho:=h1 0;have et:aN (au.box T [p,.d (.aL 0 [] true)]::r) 0=some (.box T [p,.d (.aL 0 [] true)]):=rfl;rw [et] at ho;obtain ⟨b',c,g1,g2,g3,g4,g5,g6⟩:=ho;rw [g1] at hφ;injection hφ with hφ;subst hφ;obtain ⟨c0,c1,rfl⟩:=je (by simpa using g4);have q1:=g6 1 (.d (.aL 0 [] true)) c1 rfl rfl;cases q1 with
 | d hr=>
 have hc1:c1 = .slice none 0 0:=by
  cases hr with
  | iD hf=>have:=hf rfl;rw [this.1,this.2 rfl]
  | aL _ _ hf _ _ _ _=>have:=(hf rfl).2;omega
 subst hc1;have F:=jM h1 h2;refine (Ct b' c0 w (fun w'=>w'=w.drew) g3 rfl).mono ?_
 rintro e w' ⟨rfl,rfl⟩
 exact ⟨_,_,_,κ,φ,rfl,⟨rfl,rfl⟩,.d (.str _),h1,⟨h2.lt,h2.gl⟩,by simp,⟨Nat.le_refl _,fun _ hb=>⟨hb,rfl⟩,fun _ _ hb=>⟨hb,rfl⟩,fun _ c _ fz hc=>⟨c,fz,hc,rfl⟩,rfl,rfl⟩,Kp.refl _ _⟩
def nM:RV→Bool
 | .d .aD=>true
 | .ptr 0 0=>true
 | _=>false
def yx:kg:=fun a o=>match a,o with
 | [.ptr 0 0],.box T [x,y]::r=>bif zf T&&nM x then some (.d (.bI []),.box T [.ptr 0 0,y]::r,[]) else none
 | _,_=>none
theorem yA:bU Tryz.prog 144 yx:=by
 intro a o r o' c hg _;unfold yx at hg;split at hg
 ·rename_i T x y rr;cases hb:(zf T&&nM x) with
  | false=>rw [hb] at hg;simp at hg
  | true=>
    rw [hb] at hg;simp only [cond_true,Option.some.injEq,Prod.mk.injEq] at hg;obtain ⟨rfl,rfl,rfl⟩:=hg;simp only [Bool.and_eq_true] at hb;refine FV hb.1 x y rr ?_
    have:=hb.2
    unfold nM at this;split at this
    ·exact .inl rfl
    ·exact .inr rfl
    ·cases this
 ·cases hg
def FX:kg:=fun a o=>match a,o with
 | [.ptr 0 0],.box T [p,.sl 1 1 0 len cap] :: .bL E cs::r=>bif zf T&&Nat.beq E 5 then some (.d (.str ((cs.take len).map vL)),.box T [p,.sl 1 1 0 len cap] :: .gone::r,[(cs.take len).all PK,Nat.ble len cs.length,Nat.ble 1 len,Nat.ble len 1099511627776]) else none
 | [.ptr 0 0],.box T [p,.d (.aL 0 [] true)]::r=>bif zf T then some (.d (.str []),.box T [p,.d (.aL 0 [] true)]::r,[]) else none
 | _,_=>none
theorem Cu:bU Tryz.prog 90 FX:=by
 intro a o r o' c hg hc;unfold FX at hg;split at hg
 ·rename_i T p len cap E cs rr;cases hb:(zf T&&Nat.beq E 5) with
  | false=>rw [hb] at hg;simp at hg
  | true=>
    rw [hb] at hg;simp only [cond_true,Option.some.injEq,Prod.mk.injEq] at hg;obtain ⟨rfl,rfl,rfl⟩:=hg;simp only [Bool.and_eq_true] at hb
    have:=bQ hb.2;subst this
    simp only [List.mem_cons,List.mem_nil_iff,or_false,forall_eq_or_imp,forall_eq] at hc;exact Mi p len cap cs rr hc.1 (Nat.le_of_ble_eq_true hc.2.1) (Nat.le_of_ble_eq_true hc.2.2.1) (Nat.le_of_ble_eq_true hc.2.2.2)
 ·rename_i T p rr;cases hb:zf T with
  | false=>rw [hb] at hg;simp at hg
  | true=>
    rw [hb] at hg;simp only [cond_true,Option.some.injEq,Prod.mk.injEq] at hg;obtain ⟨rfl,rfl,rfl⟩:=hg;exact FW p rr
 ·cases hg
theorem Jo {P:Program} (w:World) (d:Nat) (t k e:TypeId) (p:Option Nat) (h:P.underlying t=some (.map k e)):(Op.equalIn (d+1) t (.map p) (.map none)).run P w = .ok p.isNone w:=by
 cases p<;>simp [Op.equalIn,run_underlying h]
theorem oO {P:Program} (w:World) (t k e:TypeId) (p:Option Nat) (h:P.underlying t=some (.map k e)):(binOp .eql t (.map p) (.map none)).run P w = .ok (.bool p.isNone) w:=by
 have h3:(Op.equal t (.map p) (.map none)).run P w = .ok p.isNone w:=Jo (P:=P) w 9999 t k e p h;simp only [binOp,Sem.run_bind,h3,Result.andThen_ok,Sem.run_pure]
theorem Ao {P:Program} (w:World) {r:Nat} {es:Array MapEntry} {clock:Nat} (t:TypeId) (hb:w.heap[r]? = some (.map es clock)) :
 (Extern.MapsClone.clone #[.iface t (.map (some r))]).run P w = .ok (.iface t (.map (some w.heap.size))) (w.alloc (.map es clock)):=by
 have hg:(getObj r).run P w = .ok (.map es clock) w:=by simp [getObj,Sem.run,hb]
 have e:Extern.MapsClone.clone #[.iface t (.map (some r))]=(getObj r >>= fun o=>match o with
  | .map entries clock=>(newObj (.map entries clock) >>= fun n=>pure (.iface t (.map (some n))))
  | _=>stuck "maps.clone: a map expected"):=rfl
 rw [e];simp only [Sem.run_bind,hg,Result.andThen_ok];rfl
theorem oP {P:Program} (w:World) (t xT k e:TypeId) (v:Value) (h:P.underlying t=some (.map k e)):(Instr.typeAssert (.iface t v) xT t false).run P w = .ok v w:=by
 simp [Instr.typeAssert,run_underlying h,go_sem,Result.andThen]
set_option maxHeartbeats 1000000 in
theorem Jp (b:Nat) (es:Array MapEntry) (clock:Nat) (w:World) (hb:w.heap[b]? = some (.map es clock)) :
 Calls Tryz.prog 433 #[.map (some b)] w fun e w'=>e = .returned (.map (some w.heap.size))∧w'=w.alloc (.map es clock):=by
 have hq:=fun w=>oO (P:=Tryz.prog) w 413 _ _ (some b) Tryz.underlying413
 go_enter Tryz.func433,Tryz.ntmps433
 go_wp2
 rw [run_callFunc_extern Tryz.func220 (by kernel_rfl) (by kernel_rfl) (by kernel_rfl) (e:=Extern.MapsClone.clone) (by kernel_rfl),Ao w 413 hb];simp only [Result.andThen];rw [Oper.upon_value]
 go_wp2
 rw [oP _ 413 20 _ _ _ Tryz.underlying413];simp only [Result.andThen];rw [Oper.upon_value]
 go_wp2
 go_ret
 exact ⟨rfl,rfl⟩
theorem PL (es:List (DV×DV)):C Tryz.prog 433 [.map 0] [.map es] (fun r o=>r = .map 1∧o=[.map es,.map es]):=by
 intro κ φ w vs h1 h2 h3 h4;obtain ⟨v,rfl,hv⟩:=arg1 h3 h4;cases hv with
 | map hφ=>
 rename_i b;have ho:=h1 0;have et:aN [au.map es] 0=some (.map es):=rfl;rw [et] at ho;obtain ⟨b',dN,clock,g1,g2,g3,g4,g5⟩:=ho
 have:b'=b:=by rw [g1] at hφ;injection hφ
 subst this;refine (Jp b' dN clock w g3).mono ?_
 rintro e w' ⟨rfl,rfl⟩
 have F:=jM h1 h2
 obtain ⟨q1,q2,q3⟩:=F.alloc (i:=1) (p:=.map es) (o:=.map dN clock) (w':=w.alloc (.map dN clock)) rfl (by simp [aN])
  (fun M=>⟨_,dN,clock,aM _ _ _,bR _ _ _,aO _ _,g4,fun j x e hx he=>by
    obtain ⟨k1,k2,k3⟩:=g5 j x e hx he;exact ⟨k1.mono M.dA,k2.mono M.dA,k3⟩⟩)
 have Jh:bq (aN [au.map es]) 1 (some (.map es))=aN [.map es,.map es]:=by
  funext i
  match i with
  | 0=>simp [bq,aN]
  | 1=>simp [bq,aN]
  | i+2=>simp [bq,aN]
 simp only [Jh] at q1 q2;exact ⟨_,_,_,_,_,rfl,⟨rfl,rfl⟩,.map (aM _ _ _),q1.objs,q1.bnd,by simp,q3,q2.kp⟩
def Jq:kg:=fun a o=>match a,o with
 | [.map 0],[.map es]=>some (.map 1,[.map es,.map es],[])
 | _,_=>none
theorem PN:bU Tryz.prog 433 Jq:=by
 intro a o r o' c hg _;unfold Jq at hg;split at hg
 ·rename_i es;simp only [Option.some.injEq,Prod.mk.injEq] at hg;obtain ⟨rfl,rfl,rfl⟩:=hg;exact PL es
 ·cases hg
set_option maxHeartbeats 1000000 in
theorem Gh (b:Nat) (es:Array MapEntry) (clock:Nat) (w:World) (hb:w.heap[b]? = some (.map es clock)) :
 Calls Tryz.prog 221 #[.map (some b)] w fun e w'=>e = .returned (.map (some w.heap.size))∧w'=w.alloc (.map es clock):=by
 have hq:=fun w=>oO (P:=Tryz.prog) w 144 _ _ (some b) Tryz.underlying144
 go_enter Tryz.func221,Tryz.ntmps221
 go_wp2
 rw [run_callFunc_extern Tryz.func220 (by kernel_rfl) (by kernel_rfl) (by kernel_rfl) (e:=Extern.MapsClone.clone) (by kernel_rfl),Ao w 144 hb];simp only [Result.andThen];rw [Oper.upon_value]
 go_wp2
 rw [oP _ 144 20 _ _ _ Tryz.underlying144];simp only [Result.andThen];rw [Oper.upon_value]
 go_wp2
 go_ret
 exact ⟨rfl,rfl⟩
theorem MX (es:List (DV×DV)):C Tryz.prog 221 [.map 0] [.map es] (fun r o=>r = .map 1∧o=[.map es,.map es]):=by
 intro κ φ w vs h1 h2 h3 h4;obtain ⟨v,rfl,hv⟩:=arg1 h3 h4;cases hv with
 | map hφ=>
 rename_i b;have ho:=h1 0;have et:aN [au.map es] 0=some (.map es):=rfl;rw [et] at ho;obtain ⟨b',dN,clock,g1,g2,g3,g4,g5⟩:=ho
 have:b'=b:=by rw [g1] at hφ;injection hφ
 subst this;refine (Gh b' dN clock w g3).mono ?_
 rintro e w' ⟨rfl,rfl⟩
 have F:=jM h1 h2
 obtain ⟨q1,q2,q3⟩:=F.alloc (i:=1) (p:=.map es) (o:=.map dN clock) (w':=w.alloc (.map dN clock)) rfl (by simp [aN])
  (fun M=>⟨_,dN,clock,aM _ _ _,bR _ _ _,aO _ _,g4,fun j x e hx he=>by
    obtain ⟨k1,k2,k3⟩:=g5 j x e hx he;exact ⟨k1.mono M.dA,k2.mono M.dA,k3⟩⟩)
 have Jh:bq (aN [au.map es]) 1 (some (.map es))=aN [.map es,.map es]:=by
  funext i
  match i with
  | 0=>simp [bq,aN]
  | 1=>simp [bq,aN]
  | i+2=>simp [bq,aN]
 simp only [Jh] at q1 q2;exact ⟨_,_,_,_,_,rfl,⟨rfl,rfl⟩,.map (aM _ _ _),q1.objs,q1.bnd,by simp,q3,q2.kp⟩
theorem MZ:bU Tryz.prog 221 Jq:=by
 intro a o r o' c hg _;unfold Jq at hg;split at hg
 ·rename_i es;simp only [Option.some.injEq,Prod.mk.injEq] at hg;obtain ⟨rfl,rfl,rfl⟩:=hg;exact MX es
 ·cases hg
end Go.Proofs.YtjoefbioobdinaaGreatDoor
namespace Go.Proofs.YtjoefbioobdinaaGreatDoor
open Go.RowKit Am
set_option maxRecDepth 1000000
theorem Gi (w:World) {b:Nat} {T:TypeId} {x v:Value} {o:Obj} (hb:w.heap[b]? = some (.cells #[x,.slice none 0 0] T (0,0))) :
 ((w.setCell ⟨b,1,none⟩ v).alloc o).heap=(World.row (w.alloc o) b (.cells #[x,v] T (0,0))).heap:=by
 have hlt:=(Array.getElem?_eq_some_iff.1 hb).1;rw [lg hb];simp only [World.row,World.alloc];apply Array.ext';simp only [Array.toList_push,Array.toList_setIfInBounds];rw [List.set_append_left _ _ (by simpa using hlt)];rfl
theorem Jr {κ:bn} {φ:bG} {w w' : World} {s:bP} {a:Act} (F:av κ φ w s a) (h:w'.heap=w.heap):av κ φ w' s a:=
 ⟨fun t=>by rw [h];exact F.regs t,fun i=>by rw [h];exact F.objs i,⟨fun b hb=>by rw [h];exact F.bnd.lt b hb,fun p hp=>by rw [h];exact F.bnd.gl p hp⟩,F.n,by rw [h];exact F.df⟩
set_option maxHeartbeats 2000000 in
theorem M0 {T:Nat} (b n:Nat) (w:World) (hbk:w.heap[b]? = some (.cells #[.pointer (some ⟨b,0,none⟩),.slice none 0 0] T (0,0))) (hn:n≤281474976710656) (Q:World→Prop)
 (hQ:∀(cs:Array Value) (w' : World),n≤cs.size→w'.heap=((w.setCell ⟨b,1,none⟩ (.slice (some ⟨w.heap.size,0,none⟩) 0 cs.size)).alloc (.cells cs 5)).heap→w'.os=w.os→w'.output=w.output→Q w') :
 Calls Tryz.prog 219 #[.pointer (some ⟨b,0,none⟩),.int .i64 n] w fun e w'=>e = .returned (.tuple #[])∧Q w':=by
 obtain ⟨cs,hrun,hle,hmax⟩:=Lib.run_makeNoZero (P:=Tryz.prog) w.drew #[3] 130 5 Tryz.underlying130 n hn
 have hw:IntKind.i64.wrap (IntKind.i64.wrap 0+(n:Int))=n:=by
  rw [IntKind.wrap_i64,IntKind.wrap_i64];omega
 have hcall:(callFunc 315 #[.int .i64 (IntKind.i64.wrap (IntKind.i64.wrap 0+(n:Int)))]).run Tryz.prog w.drew = .ok (.value (.slice (some ⟨w.drew.heap.size,0,none⟩) n cs.size)) (w.drew.drew.drew.alloc (.cells cs 5)):=by
  rw [hw,run_callFunc_extern Tryz.func315 (by kernel_rfl) (by kernel_rfl) (by kernel_rfl) (e:=Extern.BytealgMakeNoZero.makeNoZero #[3] #[130]) (by kernel_rfl),hrun];rfl
 have c1:w.drew.cell? ⟨b,1,none⟩=some (.slice none 0 0):=by
  have:w.drew.heap[b]? = _:=hbk
  rw [Lib.cell_of_heap this];rfl
 have hlt:b < w.heap.size:=(Array.getElem?_eq_some_iff.1 hbk).1
 have c2:(w.alloc (.cells cs 5)).cell? ⟨b,1,none⟩=some (.slice none 0 0):=by
  have:(w.alloc (.cells cs 5)).heap[b]? = _:=(Lib.alloc_old w _ b hlt).trans hbk
  rw [Lib.cell_of_heap this];rfl
 have f2:(w.alloc (.cells cs 5)).frozen? ⟨b,1,none⟩=false:=Lib.frozen_of_heap ((Lib.alloc_old w _ b hlt).trans hbk) 1
 have hcopy:∀W:World,(Builtin.copy_ #[130,130] 3 #[.slice (some ⟨w.heap.size,0,none⟩) 0 cs.size,.slice none 0 0]).run Tryz.prog W = .ok (goInt 0) W:=
  fun W=>run_copy_none W 130 130 3 5 _ _ 0 cs.size 0 0 Tryz.underlying130 (by kernel_rfl) rfl
 have HQ:=Lib.hid (fun w' h1 h2 h3=>hQ cs w' hle h1 h2 h3);clear hw hQ
 go_enter Tryz.func219,Tryz.ntmps219
 go_wp2
 go_region
 all_goals (go_wp2;go_end0;exact ⟨rfl,HQ.out _ rfl rfl rfl⟩)
theorem arg2 {κ:bn} {φ:bG} {O:Tab} {h:Heap} {vs:Array Value} {x y:RV} (h3:vs.size=[x,y].length) (h4:∀(i:Nat) (z:RV) (v:Value),[x,y][i]? = some z→vs[i]? = some v→bB κ φ O h z v) :
 ∃v u,vs = #[v,u]∧bB κ φ O h x v∧bB κ φ O h y u:=by
 have hs:vs.size=2:=by simpa using h3
 refine ⟨vs[0],vs[1],?_,h4 0 x _ rfl (by simp [hs]),h4 1 y _ rfl (by simp [hs])⟩;apply Array.ext
 ·simpa using hs
 ·intro i hi hi2;simp at hi2
  match i,hi2 with
  | 0,_=>rfl
  | 1,_=>rfl
theorem SE {T:Nat} (n:Nat) (hn:n≤281474976710656):C Tryz.prog 219 [.ptr 0 0,.d (.int .i64 n)] [.box T [.ptr 0 0,.d (.aL 0 [] true)]]
 (fun v o=>v = .d (.bI [])∧o=[.box T [.ptr 0 0,.sl 1 1 0 0 none],.bL 5 []]):=by
 intro κ φ w vs h1 h2 h3 h4;obtain ⟨v0,v1,rfl,r0,r1⟩:=arg2 h3 h4;cases r0 with
 | ptr hφ=>
 cases r1 with
 | d hd=>
 cases hd;rename_i b;have ho:=h1 0;have et:aN [au.box T [.ptr 0 0,.d (.aL 0 [] true)]] 0=some (.box T [.ptr 0 0,.d (.aL 0 [] true)]):=rfl;rw [et] at ho;obtain ⟨b',c,g1,g2,g3,g4,g5,g6⟩:=ho;rw [g1] at hφ;injection hφ with hφ;subst hφ
 obtain ⟨c0,c1,rfl⟩:=je (by simpa using g4);have q0:=g6 0 (.ptr 0 0) c0 rfl rfl;have q1:=g6 1 (.d (.aL 0 [] true)) c1 rfl rfl
 have hc1:c1 = .slice none 0 0:=by
  cases q1 with
  | d hr=>
  cases hr with
  | iD hf=>have:=hf rfl;rw [this.1,this.2 rfl]
  | aL _ _ hf _ _ _ _=>have:=(hf rfl).2;omega
 subst hc1
 have hc0:c0 = .pointer (some ⟨b',0,none⟩):=by
  cases q0 with
  | ptr hp=>rw [g1] at hp;injection hp with hp;subst hp;rfl
 subst hc0;have F:=jM h1 h2
 refine (M0 b' n w g3 hn (fun w'=>∃κ' φ',(∀i,OR κ' φ' (aN [.box T [.ptr 0 0,.sl 1 1 0 0 none],.bL 5 []]) w'.heap i (aN [au.box T [.ptr 0 0,.sl 1 1 0 0 none],.bL 5 []] i))∧
  Ay κ' w'∧Fr κ w κ' w'∧Kp φ (aN [au.box T [.ptr 0 0,.d (.aL 0 [] true)]]) φ' (aN [au.box T [.ptr 0 0,.sl 1 1 0 0 none],.bL 5 []])) (fun cs w' hle hh hos hout=>?_)).mono (fun e w' ⟨he,κ',φ',k1,k2,k3,k4⟩=>
   ⟨_,_,_,κ',φ',he,⟨rfl,rfl⟩,.d (.bI rfl (by simp)),k1,k2,by simp,k3,k4⟩)
 obtain ⟨p1,p2,p3⟩:=F.alloc (i:=1) (p:=.bL 5 []) (o:=.cells cs 5) (w':=w.alloc (.cells cs 5)) rfl (by simp [aN])
  (fun M=>⟨_,cs,(0,0),aM _ _ _,bR _ _ _,aO _ _,CW _ _,by simp,fun j x v hx hv=>by simp at hx⟩)
 have hne:(0:Nat)≠1:=by decide
 have hlt:b' < w.heap.size:=(Array.getElem?_eq_some_iff.1 g3).1;have g3' : (w.alloc (.cells cs 5)).heap[b']? = some (.cells #[.pointer (some ⟨b',0,none⟩),.slice none 0 0] T (0,0)):=(Lib.alloc_old w _ b' hlt).trans g3;have hκ:ql κ w.heap.size (.own 1) b' = .own 0:=by rw [fD _ _ (by omega)];exact g2
 have hφ' : gU φ 1 (.at w.heap.size) 0 = .at b':=by rw [lq _ _ hne];exact g1
 obtain ⟨t1,t2,t3⟩:=p1.write (i:=0) (p:=.box T [.ptr 0 0,.sl 1 1 0 0 none]) (o:=.cells #[.pointer (some ⟨b',0,none⟩),.slice (some ⟨w.heap.size,0,none⟩) 0 cs.size] T (0,0)) hκ hφ'
  (fun c ty fz hh=>by rw [g3'] at hh;injection hh with hh;injection hh with a1 a2 a3;subst a1;subst a2;exact ⟨_,_,rfl,rfl⟩) (fun n hn=>by simp [au.cB] at hn)
  (fun M=>⟨b',_,hφ',hκ,dx g3',rfl,fun v hv=>by
    simp at hv;rcases hv with rfl | rfl<;>rfl,fun j x v hx hv=>by
    match j,hx,hv with
    | 0,hx,hv=>simp at hx hv;subst hx;subst hv;exact .ptr hφ'
    | 1,hx,hv=>
      simp at hx hv;subst hx;subst hv;refine .sl (aM _ _ _) (c:=cs) (ty:=5) (fz:=(0,0)) ?_ (.inl rfl) (by omega) (Nat.zero_le _) (fun k e=>by cases e) (fun _ m hm=>?_)
      ·rw [gT _ _ (by omega)];exact aO _ _
      ·simp [bq,au.cB] at hm;omega
    | j+2,hx,hv=>simp at hx⟩)
 have Jh:bq (bq (aN [au.box T [.ptr 0 0,.d (.aL 0 [] true)]]) 1 (some (.bL 5 []))) 0 (some (.box T [.ptr 0 0,.sl 1 1 0 0 none]))=aN [.box T [.ptr 0 0,.sl 1 1 0 0 none],.bL 5 []]:=by
  funext i
  match i with
  | 0=>simp [bq,aN]
  | 1=>simp [bq,aN]
  | i+2=>simp [bq,aN]
 simp only [Jh] at t1 t2;have hheap:w'.heap=(World.row (w.alloc (.cells cs 5)) b' (.cells #[.pointer (some ⟨b',0,none⟩),.slice (some ⟨w.heap.size,0,none⟩) 0 cs.size] T (0,0))).heap:=hh.trans (Gi w g3);have t1':=Jr t1 hheap;have hfr:=p3.trans t3;have ZC : Fr κ w (ql κ w.heap.size (.own 1)) w':=⟨by rw [hheap];exact hfr.size,fun b hb=>by rw [hheap];exact hfr.dA b hb,fun b hb ho=>by rw [hheap];exact hfr.kr b hb ho,fun b c ty fz hc=>by rw [hheap];exact hfr.wu b c ty fz hc,hos,hout⟩
 exact ⟨_,_,t1'.objs,t1'.bnd,ZC,⟨fun i hi=>by rw [t2.kp.phi i (by rw [p2.kp.phi i hi];exact hi),p2.kp.phi i hi],fun i m hi hm=>p2.kp.len i m hi (by
  have:=t2.kp.len i m (by rw [p2.kp.phi i hi];exact hi) hm
  exact this)⟩⟩
def M4:kg:=fun a o=>match a,o with
 | [.ptr 0 0,.d (.int .i64 n)],[.box T [.ptr 0 0,.d (.aL 0 [] true)]]=>some (.d (.bI []),[.box T [.ptr 0 0,.sl 1 1 0 0 none],.bL 5 []],[decide (0≤n),decide (n≤281474976710656)])
 | _,_=>none
theorem M5:bU Tryz.prog 219 M4:=by
 intro a o r o' c hg hc;unfold M4 at hg;split at hg
 ·rename_i n T;simp only [Option.some.injEq,Prod.mk.injEq] at hg;obtain ⟨rfl,rfl,rfl⟩:=hg;have h0:0≤n:=by simpa using hc (decide (0≤n)) (by simp)
  have h1:n≤281474976710656:=by simpa using hc (decide (n≤281474976710656)) (by simp)
  have:=SE (T:=T) n.toNat (by omega)
  rw [Int.toNat_of_nonneg h0] at this;exact this
 ·cases hg
end Go.Proofs.YtjoefbioobdinaaGreatDoor
namespace Go.Proofs
open Go.Shelf
def Tryz.keysA_ren:Go.Shelf.Ren:=⟨fun | 7=>431 | 10=>535 | n=>n,fun | 23=>413 | 26=>3 | 3=>9 | 28=>250 | 0=>0 | 27=>249 | 33=>155 | 4=>4 | n=>n,fun | n=>n⟩
theorem Tryz.keysA:Go.Proofs.SlLaysZI.n7 Tryz.prog Tryz.keysA_ren:={
 mixed:=by kernel_rfl
 f7:=⟨Tryz.f431.name,by decide,Tryz.func431.trans (congrArg some (by kernel_rfl))⟩
 f10:=⟨Tryz.f535.name,by decide,Tryz.func535.trans (congrArg some (by kernel_rfl))⟩
 t0:=Tryz.underlying0
 a0:=Tryz.isAgg0
 z0:=Tryz.sizeOf0
 v0:=Tryz.zeroValue0
 t4:=Tryz.underlying4
 a4:=Tryz.isAgg4
 z4:=Tryz.sizeOf4
 v4:=Tryz.zeroValue4
 t23:=Tryz.underlying413
 a23:=Tryz.isAgg413
 z23:=Tryz.sizeOf413
 v23:=Tryz.zeroValue413
 t26:=Tryz.underlying3
 a26:=Tryz.isAgg3
 z26:=Tryz.sizeOf3
 v26:=Tryz.zeroValue3
 t27:=Tryz.underlying249
 a27:=Tryz.isAgg249
 z27:=Tryz.sizeOf249
 v27:=Tryz.zeroValue249
 t28:=Tryz.underlying250
 a28:=Tryz.isAgg250
 z28:=Tryz.sizeOf250
 v28:=Tryz.zeroValue250
 t33:=Tryz.underlying155
 a33:=Tryz.isAgg155
 z33:=Tryz.sizeOf155
 v33:=Tryz.zeroValue155 }
def Tryz.sortedA_ren:Go.Shelf.Ren:=⟨fun | 6=>155 | 8=>222 | 9=>223 | 11=>316 | 13=>162 | 12=>317 | 23=>239 | 24=>215 | 14=>414 | 15=>415 | 16=>416 | 17=>417 | 18=>418 | 19=>419 | 20=>420 | 21=>421 | 22=>422 | 25=>525 | 26=>322 | 27=>323 | 28=>526 | 29=>527 | 30=>528 | 31=>607 | n=>n,fun | 26=>3 | 28=>250 | 24=>40 | 0=>0 | 3=>3 | 37=>204 | 48=>293 | 50=>97 | 4=>4 | 40=>335 | 39=>334 | 45=>340 | 5=>5 | 9=>9 | 51=>433 | 55=>436 | 57=>516 | 58=>53 | 33=>155 | n=>n,fun | n=>n⟩
theorem Tryz.sortedA:Go.Proofs.SlLaysZI.n6 Tryz.prog Tryz.sortedA_ren:={
 mixed:=by kernel_rfl
 f6:=⟨Tryz.f155.name,by decide,Tryz.func155.trans (congrArg some (by kernel_rfl))⟩
 f8:=⟨Tryz.f222.name,by decide,Tryz.func222.trans (congrArg some (by kernel_rfl))⟩
 f11:=⟨Tryz.f316.name,by decide,Tryz.func316.trans (congrArg some (by kernel_rfl))⟩
 t0:=Tryz.underlying0
 a0:=Tryz.isAgg0
 z0:=Tryz.sizeOf0
 v0:=Tryz.zeroValue0
 t24:=Tryz.underlying40
 a24:=Tryz.isAgg40
 z24:=Tryz.sizeOf40
 v24:=Tryz.zeroValue40
 t26:=Tryz.underlying3
 a26:=Tryz.isAgg3
 z26:=Tryz.sizeOf3
 v26:=Tryz.zeroValue3
 t28:=Tryz.underlying250
 a28:=Tryz.isAgg250
 z28:=Tryz.sizeOf250
 v28:=Tryz.zeroValue250
 i26:=by kernel_rfl }
def Tryz.sortA_ren:Go.Shelf.Ren:=⟨fun | 5=>223 | 8=>162 | 7=>317 | 19=>239 | 20=>215 | 10=>414 | 11=>415 | 12=>416 | 13=>417 | 14=>418 | 15=>419 | 16=>420 | 17=>421 | 18=>422 | 30=>525 | 31=>322 | 32=>323 | 33=>526 | 34=>527 | 35=>528 | 40=>607 | n=>n,fun | 23=>40 | 25=>3 | 3=>3 | 32=>204 | 22=>40 | 0=>0 | 44=>293 | 46=>97 | 4=>4 | 36=>335 | 35=>334 | 41=>340 | 5=>5 | 9=>9 | 53=>433 | 57=>436 | 63=>516 | 64=>53 | n=>n,fun | n=>n⟩
theorem Tryz.sortA:Go.Proofs.SlLaysM.n5 Tryz.prog Tryz.sortA_ren:={
 mixed:=by kernel_rfl
 f5:=⟨Tryz.f223.name,by decide,Tryz.func223.trans (congrArg some (by kernel_rfl))⟩
 f7:=⟨Tryz.f317.name,by decide,Tryz.func317.trans (congrArg some (by kernel_rfl))⟩
 f8:=Tryz.func162.trans (congrArg some (by kernel_rfl))
 f10:=⟨Tryz.f414.name,by decide,Tryz.func414.trans (congrArg some (by kernel_rfl))⟩
 f11:=⟨Tryz.f415.name,by decide,Tryz.func415.trans (congrArg some (by kernel_rfl))⟩
 f12:=⟨Tryz.f416.name,by decide,Tryz.func416.trans (congrArg some (by kernel_rfl))⟩
 f13:=⟨Tryz.f417.name,by decide,Tryz.func417.trans (congrArg some (by kernel_rfl))⟩
 f14:=⟨Tryz.f418.name,by decide,Tryz.func418.trans (congrArg some (by kernel_rfl))⟩
 f15:=⟨Tryz.f419.name,by decide,Tryz.func419.trans (congrArg some (by kernel_rfl))⟩
 f16:=⟨Tryz.f420.name,by decide,Tryz.func420.trans (congrArg some (by kernel_rfl))⟩
 f17:=⟨Tryz.f421.name,by decide,Tryz.func421.trans (congrArg some (by kernel_rfl))⟩
 f18:=⟨Tryz.f422.name,by decide,Tryz.func422.trans (congrArg some (by kernel_rfl))⟩
 f19:=Tryz.func239.trans (congrArg some (by kernel_rfl))
 f20:=Tryz.func215.trans (congrArg some (by kernel_rfl))
 f30:=⟨Tryz.f525.name,by decide,Tryz.func525.trans (congrArg some (by kernel_rfl))⟩
 f31:=Tryz.func322.trans (congrArg some (by kernel_rfl))
 f32:=Tryz.func323.trans (congrArg some (by kernel_rfl))
 f33:=⟨Tryz.f526.name,by decide,Tryz.func526.trans (congrArg some (by kernel_rfl))⟩
 f34:=⟨Tryz.f527.name,by decide,Tryz.func527.trans (congrArg some (by kernel_rfl))⟩
 f35:=⟨Tryz.f528.name,by decide,Tryz.func528.trans (congrArg some (by kernel_rfl))⟩
 f40:=⟨Tryz.f607.name,by decide,Tryz.func607.trans (congrArg some (by kernel_rfl))⟩
 t0:=Tryz.underlying0
 a0:=Tryz.isAgg0
 z0:=Tryz.sizeOf0
 v0:=Tryz.zeroValue0
 t3:=Tryz.underlying3
 a3:=Tryz.isAgg3
 z3:=Tryz.sizeOf3
 v3:=Tryz.zeroValue3
 t4:=Tryz.underlying4
 a4:=Tryz.isAgg4
 z4:=Tryz.sizeOf4
 v4:=Tryz.zeroValue4
 t5:=Tryz.underlying5
 a5:=Tryz.isAgg5
 z5:=Tryz.sizeOf5
 v5:=Tryz.zeroValue5
 t9:=Tryz.underlying9
 a9:=Tryz.isAgg9
 z9:=Tryz.sizeOf9
 v9:=Tryz.zeroValue9
 t22:=Tryz.underlying40
 a22:=Tryz.isAgg40
 z22:=Tryz.sizeOf40
 v22:=Tryz.zeroValue40
 t23:=Tryz.underlying40
 a23:=Tryz.isAgg40
 z23:=Tryz.sizeOf40
 v23:=Tryz.zeroValue40
 t25:=Tryz.underlying3
 a25:=Tryz.isAgg3
 z25:=Tryz.sizeOf3
 v25:=Tryz.zeroValue3
 t32:=Tryz.underlying204
 a32:=Tryz.isAgg204
 z32:=Tryz.sizeOf204
 v32:=Tryz.zeroValue204
 t35:=Tryz.underlying334
 a35:=Tryz.isAgg334
 z35:=Tryz.sizeOf334
 v35:=Tryz.zeroValue334
 t36:=Tryz.underlying335
 a36:=Tryz.isAgg335
 z36:=Tryz.sizeOf335
 v36:=Tryz.zeroValue335
 t41:=Tryz.underlying340
 a41:=Tryz.isAgg340
 z41:=Tryz.sizeOf340
 v41:=Tryz.zeroValue340
 t44:=Tryz.underlying293
 a44:=Tryz.isAgg293
 z44:=Tryz.sizeOf293
 v44:=Tryz.zeroValue293
 t46:=Tryz.underlying97
 a46:=Tryz.isAgg97
 z46:=Tryz.sizeOf97
 v46:=Tryz.zeroValue97
 t53:=Tryz.underlying433
 a53:=Tryz.isAgg433
 z53:=Tryz.sizeOf433
 v53:=Tryz.zeroValue433
 t57:=Tryz.underlying436
 a57:=Tryz.isAgg436
 z57:=Tryz.sizeOf436
 v57:=Tryz.zeroValue436
 t63:=Tryz.underlying516
 a63:=Tryz.isAgg516
 z63:=Tryz.sizeOf516
 v63:=Tryz.zeroValue516
 t64:=Tryz.underlying53
 a64:=Tryz.isAgg53
 z64:=Tryz.sizeOf53
 v64:=Tryz.zeroValue53 }
end Go.Proofs
namespace Go.Proofs.YtjoefbioobdinaaGreatDoor
open Go.RowKit Am Go.Maps Go.Sort Go.Shelf
set_option maxRecDepth 100000
set_option linter.unusedVariables false
theorem PO (m:Nat):AnyZI.SortsIn Tryz.prog Tryz.sortedA_ren Fence.wide m:=
 ⟨fun blk off cap ss W hH hblk hsz=>callsIn_wide.2 (AnyM.slices_Sort_int Tryz.sortA blk off cap ss W hH hblk hsz),
  fun p cap W=>callsIn_wide.2 (AnyM.slices_Sort_int_none Tryz.sortA p cap W)⟩
theorem Cz {H:Type} (Bm b nn:Nat) (D0:DataW H) (R:Value→Option (DataW H×List MemPlace)) (w:World) (hBm:Bm < w.heap.size) (hm:w.cell? ⟨Bm,0,none⟩=some (.map (some b))) (hown:w.ownsMap Tryz.prog 3 R b nn D0) (hmax:Maps.size D0≤maxLen) (hbytes:Maps.size D0*8≤140737488355328) :
 Calls Tryz.prog 155 #[.func (.func 535) #[] #[.pointer (some ⟨Bm,0,none⟩)]] w fun e w'=>∃(v:Value) (ss:List Int),e = .returned v∧ss.Perm (intKeys D0)∧
  w'.ownsRow w.heap.size 3 1 v ss.length ((ss.mergeSort (fun x y=>decide (x≤y))).map encZ)∧(v = .slice none 0 0↔ss=[])∧Below w.heap.size w w':=by
 have hseq:SeqGives Fence.wide 2 Tryz.prog 535 #[.pointer (some ⟨Bm,0,none⟩)] encZ (fun ss=>ss.Perm (intKeys D0)) (Maps.size D0) w:=
  AnyZI.keys_gives (ρ:=Tryz.keysA_ren) { Tryz.keysA with } Fence.wide _ trivial rfl (by omega) Bm b nn D0 _ hBm hm hown
 exact (callsIn_wide (n:=5)).1 (AnyZI.sorted_in Tryz.sortedA Fence.wide 5 trivial trivial trivial trivial rfl (by omega) (PO _) (enters_of Tryz.func223 (by kernel_rfl) rfl) 535 #[.pointer (some ⟨Bm,0,none⟩)] trivial (enters_of Tryz.func535 (by kernel_rfl) rfl) _ _ hmax hbytes _ hseq)
def yG:DV×DV→Int
 | (.int _ k,_)=>k
 | _=>0
def isKey:DV×DV→Bool
 | (.int .i64 _,_)=>true
 | _=>false
def PS (x:Int):List Int→List Int
 | []=>[x]
 | y::r=>if x≤y then x::y::r else y::PS x r
def vM:List Int→List Int
 | []=>[]
 | x::r=>PS x (vM r)
theorem Ap (x:Int):∀l,(PS x l).Perm (x::l)
 | []=>.refl _
 | y::r=>by
   unfold PS;split
   ·exact .refl _
   ·exact ((Ap x r).cons y).trans (.swap _ _ _)
theorem yH:∀l,(vM l).Perm l
 | []=>.refl _
 | x::r=>(Ap x _).trans ((yH r).cons x)
def Vw:List Int→Int→Bool
 | [],_=>true
 | k::r,b=>decide (b < k∧k≤1000000)&&Vw r k
theorem Ep:∀{ks:List Int} {b:Int},Vw ks b=true→(∀k∈ks,b < k∧k≤1000000)∧ks.Pairwise (· < ·)
 | [],_,_=>by simp
 | k::r,b,h=>by
   simp only [Vw,Bool.and_eq_true,decide_eq_true_eq] at h;obtain ⟨h1,h2⟩:=Ep h.2;refine ⟨fun x hx=>?_,?_⟩
   ·rcases List.mem_cons.1 hx with rfl | hx
    ·exact h.1
    ·have:=h1 x hx;exact ⟨by omega,this.2⟩
   ·rw [List.pairwise_cons];exact ⟨fun x hx=>(h1 x hx).1,h2⟩
theorem ZE:Tryz.prog.underlying 3=some (.int .i64):=by kernel_rfl
abbrev tF:Value→Option (DataW Unit×List MemPlace):=fun _=>some (.nil,[])
abbrev kW (es:List (DV×DV)):List DV:=(vM (es.map yG)).map fun k=>.int .i64 k
theorem M6 (es:List (DV×DV)) (T:Nat) (hl:es.length≤1000) (hi:es.all isKey=true) (hu:Vw (vM (es.map yG)) (-1)=true) :
 C Tryz.prog 155 [.fM (.func 535) [] [.ptr 0 0]] [.box T [.map 1],.map es]
  (fun r o=>r = .d (.aL 1 (kW es) false)∧o=[.box T [.map 1],.map es]):=by
 obtain ⟨hk0,hp⟩:=Ep hu;have hpm:=yH (es.map yG)
 have hk:∀p∈es,p.1 = .int .i64 (yG p)∧-1 < yG p∧yG p≤1000000:=fun p hp=>by
  refine ⟨?_,hk0 (yG p) (hpm.mem_iff.2 (List.mem_map.2 ⟨p,hp,rfl⟩))⟩
  have:=List.all_eq_true.1 hi p hp
  obtain ⟨x,y⟩:=p;cases x<;>simp [isKey] at this
  rename_i k n;cases k<;>simp at this
  rfl
 intro κ φ w vs h1 h2 h3 h4
 have hv:∃bm,vs = #[.func (.func 535) #[] #[.pointer (some ⟨bm,0,none⟩)]]∧φ 0 = .at bm:=by
  have hs:vs.size=1:=by simpa using h3
  have:=h4 0 _ vs[0] rfl (by simp [hs])
  generalize hx:vs[0]=x at this;cases this with
  | fM hfl hcl hf hc=>
    rename_i f c;have e1:f = #[]:=by apply Array.eq_empty_of_size_eq_zero;simpa using hfl
    have hcs:c.size=1:=by simpa using hcl
    have:=hc 0 (.ptr 0 0) c[0] rfl (by simp [hcs])
    generalize hy:c[0]=y at this;cases this with
    | ptr hφ=>
      rename_i bm;refine ⟨bm,?_,hφ⟩;apply Array.ext
      ·simp [hs]
      ·intro i hi hi2
       have:i=0:=by simp at hi2;omega
       subst this;rw [hx,e1]
       have:c = #[.pointer (some ⟨bm,0,none⟩)]:=by
        apply Array.ext
        ·simp [hcs]
        ·intro i hi hi2
         have:i=0:=by simp at hi2;omega
         subst this;rw [hy];rfl
       rw [this];rfl
 obtain ⟨bm,rfl,hφ0⟩:=hv;have o0:=h1 0;obtain ⟨b0,c,q1,q2,q3,q4,q5,q6⟩:=o0;have hb0:b0=bm:=by rw [q1] at hφ0;injection hφ0
 subst hb0;have o1:=h1 1;obtain ⟨b,dN,clock,g1,g2,g3,⟨g4,gn⟩,g5⟩:=o1;have hcs:c.size=1:=by simpa using q4
 have hc0:c[0]? = some (.map (some b)):=by
  have:=q6 0 (.map 1) c[0] rfl (by simp [hcs])
  generalize hy:c[0]=y at this;cases this with
  | map hφ=>
    rename_i b'
    have:b=b':=by rw [g1] at hφ;injection hφ
    subst this;simp [hcs,hy]
 have hbm:b0 < w.heap.size:=h2.lt b0 (by rw [q2];simp)
 have hcell:w.cell? ⟨b0,0,none⟩=some (.map (some b)):=by
  simp only [World.cell?,q3];simpa using hc0
 have hrow:∀(j:Nat) (e:MapEntry),dN[j]? = some e→∃p,es[j]? = some p∧e.key = .int .i64 (yG p)∧e.born < clock:=fun j e he=>by
  have hj:j < dN.size:=(Array.getElem?_eq_some_iff.1 he).1;have hj2:j < es.length:=by omega
  refine ⟨es[j],by simp [hj2],?_,(g5 j es[j] e (by simp [hj2]) he).2.2⟩
  have:=(g5 j es[j] e (by simp [hj2]) he).1
  rw [(hk es[j] (List.getElem_mem hj2)).1] at this;generalize e.key=x at this;cases this;rfl
 have hkeys:dN.toList.map (fun e=>e.key)=es.map fun p=>Value.int .i64 (yG p):=by
  apply List.ext_getElem?;intro j;rw [List.getElem?_map,List.getElem?_map,Array.getElem?_toList];cases he:dN[j]? with
  | none=>
    have:es[j]? = none:=by
     rw [List.getElem?_eq_none_iff];rw [Array.getElem?_eq_none_iff] at he;omega
    rw [this];rfl
  | some e=>
    obtain ⟨p,hp1,hp2,_⟩:=hrow j e he;rw [hp1];simp [hp2]
 have hnd:(es.map yG).Nodup:=hpm.nodup_iff.1 (hp.imp (fun h=>by omega))
 have hwf:∀p∈es,(Lit.int .i64 (yG p)).wf=true:=fun p hp=>by
  obtain ⟨_,q2,q3⟩:=hk p hp;have e1:IntKind.i64.min≤yG p:=Int.le_trans (by decide:IntKind.i64.min≤0) (by omega);have e2:yG p≤IntKind.i64.max:=Int.le_trans q3 (by decide);simp only [Lit.wf,e1,e2,decide_true,Bool.and_true]
 have hrd:∀x∈dN.toList,∃k:Int,x.key = .int .i64 k∧Go.WideElems.rd Tryz.prog 3 tF x=some (.int .i64 k,.nil):=fun x hx=>by
  obtain ⟨j,hj,he⟩:=List.mem_iff_getElem.1 hx;obtain ⟨p,hp1,hp2,_⟩:=hrow j x (by rw [←he];simp);refine ⟨yG p,hp2,?_⟩;unfold Go.WideElems.rd;rw [hp2,keyOf_int_mk ZE (hwf p (List.mem_of_getElem? hp1))];rfl
 have hfit:Go.WideElems.Fit Tryz.prog 3 tF dN clock:={
  size:=by have:(1000:Nat)≤maxLen:=by decide
           omega
  stamped:=⟨fun x hx=>by
   obtain ⟨j,hj,he⟩:=List.mem_iff_getElem.1 hx;obtain ⟨p,_,_,hp3⟩:=hrow j x (by rw [←he];simp)
   exact hp3,gn,by
    show (dN.toList.map (fun e=>e.key)).Nodup
    rw [hkeys]
    have:(es.map fun p=>Value.int .i64 (yG p))=(es.map yG).map (Value.int .i64):=by simp
    rw [this];exact hnd.map _ (fun a b hne e=>hne (by injection e))⟩
  reads:=fun x hx=>by obtain ⟨k,_,h⟩:=hrd x hx;exact ⟨_,h⟩ }
 have hown:w.ownsMap Tryz.prog 3 tF b dN.size (.map ((dN.toList.map (Go.WideElems.rg Tryz.prog 3 tF)).foldr DataW.insert [])):=
  ⟨dN,clock,g3,hfit,Nat.le_refl _,rfl⟩
 have hperm:=Go.WideShapes.sorted_perm (dN.toList.map (Go.WideElems.rg Tryz.prog 3 tF))
 have hik:(intKeys (DataW.map ((dN.toList.map (Go.WideElems.rg Tryz.prog 3 tF)).foldr DataW.insert []))).Perm (es.map yG):=by
  refine (hperm.map (fun p=>Go.intOf p.1)).trans ?_;rw [List.map_map]
  have:(dN.toList.map ((fun p:Lit×DataW Unit=>Go.intOf p.1)∘Go.WideElems.rg Tryz.prog 3 tF))=es.map yG:=by
   apply List.ext_getElem?;intro j;rw [List.getElem?_map,List.getElem?_map,Array.getElem?_toList];cases he:dN[j]? with
   | none=>
     have:es[j]? = none:=by
      rw [List.getElem?_eq_none_iff];rw [Array.getElem?_eq_none_iff] at he;omega
     rw [this];rfl
   | some e=>
     obtain ⟨p,hp1,hp2,_⟩:=hrow j e he;rw [hp1];obtain ⟨k,hk1,hk2⟩:=hrd e (by have:=Array.getElem?_eq_some_iff.1 he;obtain ⟨hj,e1⟩:=this;rw [←e1];simp);rw [hp2] at hk1;injection hk1 with _ hk1;simp [Go.WideElems.rg,hk2,Go.intOf,hk1]
  rw [this]
 have hsize:Maps.size (DataW.map ((dN.toList.map (Go.WideElems.rg Tryz.prog 3 tF)).foldr DataW.insert []))≤1000:=by
  show List.length _≤1000
  rw [hperm.length_eq,List.length_map,Array.length_toList];omega
 refine (Cz b0 b dN.size _ tF w hbm hcell hown (Nat.le_trans hsize (by decide)) (by omega)).mono ?_
 rintro e w' ⟨v,ss,rfl,hss,hrw,_,hB⟩
 have hsort:ss.mergeSort (fun x y=>decide (x≤y))=vM (es.map yG):=by
  have e1:=mergeSort_of_perm_i (hss.trans hik)
  have e2:(es.map yG).mergeSort leI=vM (es.map yG):=by
   rw [←mergeSort_of_perm_i hpm];apply List.mergeSort_of_pairwise;exact hp.imp (fun h=>by simp [leI];omega)
  exact e1.trans e2
 have hlen:ss.length=(kW es).length:=by
  rw [(hss.trans hik).length_eq];simp [hpm.length_eq]
 rw [hsort] at hrw
 obtain ⟨d1,d2,d3⟩:=Go.Am.newRow (κ:=κ) (els:=kW es) hrw hlen (fun x hx=>by
  obtain ⟨p,_,rfl⟩:=List.mem_map.1 hx;exact ⟨rfl,fun y hy=>by simp [DV.cells] at hy;subst hy;rfl⟩) (fun i x j y u hx hy hu=>by
  simp only [kW,List.getElem?_map,Option.map_eq_some_iff] at hx;obtain ⟨p,hp1,rfl⟩:=hx;cases j with
  | succ j=>simp [DV.cells] at hy
  | zero=>
    simp [DV.cells] at hy;subst hy;simp [hp1] at hu;subst hu
    rfl) h2.lt hB.size
 have hM:dG κ φ (aN [au.box T [RV.map 1],.map es]) w.heap (lX κ v) φ (aN [au.box T [RV.map 1],.map es]) w'.heap:={
  dA:=fun b hb=>⟨(d2 b (h2.lt b (by rw [hb];simp))).trans hb,hB.block b (h2.lt b (by rw [hb];simp))⟩
  wu:=fun b c ty fz hc=>by
   have hl:b < w.heap.size:=by
    rcases Nat.lt_or_ge b w.heap.size with h' | h'
    ·exact h'
    ·rw [Array.getElem?_eq_none h'] at hc;simp at hc
   exact ⟨c,fz,(hB.block b hl).trans hc,rfl⟩
  phi:=fun _ _=>rfl
  len:=fun _ _ _ h=>h }
 refine ⟨v,_,_,lX κ v,φ,rfl,⟨rfl,rfl⟩,.d d1,fun i=>?_,h2.step ⟨hB.size,hM.dA,fun b hl hb=>⟨(d2 b hl).trans hb,hB.block b hl⟩,hM.wu,hB.os,hB.output⟩ d3,Nat.le_refl _,⟨hB.size,hM.dA,fun b hl hb=>⟨(d2 b hl).trans hb,hB.block b hl⟩,hM.wu,hB.os,hB.output⟩,Kp.refl _ _⟩;exact (h1 i).mono hM (fun b hb=>⟨(d2 b (h2.lt b (by rw [hb];simp))).trans hb,hB.block b (h2.lt b (by rw [hb];simp))⟩) rfl
def M7:kg:=fun a o=>match a,o with
 | [.fM (.func f) [] [.ptr 0 0]],[.box T [.map 1],.map es]=>
   bif Nat.beq f 535&&Nat.ble es.length 1000&&es.all isKey&&Vw (vM (es.map yG)) (-1) then some (.d (.aL 1 (kW es) false),[.box T [.map 1],.map es],[]) else none
 | _,_=>none
theorem M8:bU Tryz.prog 155 M7:=by
 intro a o r o' c hg _;unfold M7 at hg;split at hg
 ·rename_i f T es;cases hb:(Nat.beq f 535&&Nat.ble es.length 1000&&es.all isKey&&Vw (vM (es.map yG)) (-1)) with
  | false=>rw [hb] at hg;cases hg
  | true=>
    rw [hb] at hg;simp only [cond_true,Option.some.injEq,Prod.mk.injEq] at hg;obtain ⟨rfl,rfl,rfl⟩:=hg;simp only [Bool.and_eq_true] at hb
    have:=bQ hb.1.1.1;subst this
    exact M6 es T (Nat.le_of_ble_eq_true hb.1.1.2) hb.1.2 hb.2
 ·cases hg
end Go.Proofs.YtjoefbioobdinaaGreatDoor
namespace Go.Proofs.YtjoefbioobdinaaGreatDoor
open Go.RowKit Am
noncomputable def tbB:List (Nat×kg):=[(531,Rn),
 (130,e2 Oz),
 (292,e2 Ro),
 (304,e2 Rp),
 (144,yx),
 (90,FX),
 (433,Jq),
 (219,M4),
 (221,Jq),
 (155,M7)]
theorem SF:dQ Tryz.prog tbB:=.cons Oy (.cons Hl (.cons OA (.cons OB (.cons yA (.cons Cu (.cons PN (.cons M5 (.cons MZ (.cons M8 .nil)))))))))
noncomputable def aK:tN:=DJ tbB
theorem M9:aW Tryz.prog (aJ aK []):=xO SF
end Go.Proofs.YtjoefbioobdinaaGreatDoor
namespace Go.aR
open Go.Lib
theorem Es (s:W):s=(cut s).1++(if (cut s).2.2=true then 32::(cut s).2.1 else []):=by
 cases h:(cut s).2.2 with
 | true=>rw [if_pos rfl];exact D6 s h
 | false=>rw [if_neg (by simp),List.append_nil,(xY s h).1]
theorem jN (r:W):r=nR true r++(if eu true r=true then 32::dM true r else []):=by
 simp only [nR,eu,dM,if_true];exact Es r
theorem mX {e w:Int} (h:jX e w=0):e=0∧w=0:=by
 unfold jX at h;split at h
 ·omega
 ·split at h
  ·exact ⟨h,by assumption⟩
  ·exact absurd h (by assumption)
theorem kE {a b:Act} {m:Bool} {e:Int} (h:stop a m e=(b,0)):m=false∧e=0∧b=a:=by
 cases m with
 | false=>
   have h:(if e=0 then (a,(0:Int)) else ({},e))=(b,0):=h;by_cases h0:e=0
   ·rw [if_pos h0] at h;injection h with h1 _;exact ⟨rfl,h0,h1.symm⟩
   ·rw [if_neg h0] at h;injection h with _ h2;exact absurd h2 h0
 | true=>
   have h:(if jX e 6=0 then (a,(0:Int)) else ({},jX e 6))=(b,0):=h;have h0:jX e 6≠0:=fun h0=>absurd (mX h0).2 (by decide);rw [if_neg h0] at h;injection h with _ h2;exact absurd h2 h0
theorem Et {m:Bool} {e:Int} (h:wh m e=0):m=true∧e=0:=by
 unfold wh at h;cases m with
 | true=>exact ⟨rfl,h⟩
 | false=>exact absurd (mX h).2 (by decide)
theorem Nb {w:W} (h:JI w=0):itoa (Hw w)=w:=by
 unfold JI at h;unfold Hw;cases hn:y9 w with
 | none=>rw [hn] at h;cases h
 | range=>rw [hn] at h;cases h
 | is n=>
   show itoa n=w
   unfold y9 at hn;cases hi:intOf w with
   | some k=>
     rw [hi] at hn;injection hn with hn;subst hn;exact (mV.1 hi).2
   | none=>rw [hi] at hn;simp only at hn;split at hn<;>cases hn
theorem mY {m:Bool} {r:W} {e:Int} (h:nS m r e=0):m=true∧e=0∧itoa (iG m r)=nR m r:=by
 unfold nS at h;obtain ⟨h1,h2⟩:=mX h;obtain ⟨h3,h4⟩:=Et h1;exact ⟨h3,h4,Nb h2⟩
theorem Js {w:W} (h:mg w=true):nT (gZ w)=w∧gZ w≠[]:=by
 unfold mg at h;simp only [Bool.and_eq_true,decide_eq_true_eq,bne_iff_ne,ne_eq] at h;obtain ⟨h1,h2⟩:=h;refine ⟨?_,?_⟩
 ·unfold nT gZ;rw [List.map_map]
  have:∀l:W,l.all (fun c=>c==43||c==45)=true→l.map ((fun b=>if b=true then (43:UInt8) else 45)∘fun c=>c==43)=l:=by
   intro l;induction l with
   | nil=>intro _;rfl
   | cons c l ih=>
     intro hl;simp only [List.all_cons,Bool.and_eq_true,Bool.or_eq_true,beq_iff_eq] at hl;rw [List.map_cons,ih hl.2];rcases hl.1 with e | e<;>subst e<;>rfl
  exact this w h2
 ·unfold gZ;intro e;exact h1 (List.map_eq_nil_iff.1 e)
theorem Nc {w:W} {x:Int} (h:oJ w=some x):(if x % 2=1 then [105,111] else [115,112,97,99,101])=w:=by
 unfold oJ at h;split at h
 ·rename_i e;injection h with h;subst h;subst e;rfl
 ·split at h
  ·rename_i e;injection h with h;subst h;subst e;rfl
  ·cases h
theorem Nf {k:Nat} (hk:2≤k∧k≤14) {m:Bool} {r:W} (hr:m=false→r=[]) {b:Act} (h:Ad k m r=(b,0)):line b=kw k++(if m=true then 32::r else []):=by
 have:k=2∨k=3∨k=4∨k=5∨k=6∨k=7∨k=8∨k=9∨k=10∨k=11∨k=12∨k=13∨k=14:=by omega
 have one:∀{a:Act},stop a (eu m r) (nS m r 0)=(b,0)→b=a∧m=true∧r=itoa (iG m r):=fun {a} h=>by
  obtain ⟨h1,h2,h3⟩:=kE h;obtain ⟨h4,_,h5⟩:=mY h2;subst h4;refine ⟨h3,rfl,?_⟩
  have:=jN r
  rw [h1,if_neg (by simp),List.append_nil,←h5] at this;exact this
 have two:∀{e:Int},nS (eu m r) (dM m r) (nS m r 0)=e→e=0→m=true∧r=itoa (iG m r)++32::dM m r∧eu m r=true∧itoa (iG (eu m r) (dM m r))=nR (eu m r) (dM m r):=fun {e} he h=>by
  subst h;obtain ⟨h1,h2,h3⟩:=mY he;obtain ⟨h4,_,h5⟩:=mY h2;subst h4;refine ⟨rfl,?_,h1,h3⟩
  have:=jN r
  rw [h1,if_pos rfl,←h5] at this;exact this
 rcases this with rfl | rfl | rfl | rfl | rfl | rfl | rfl | rfl | rfl | rfl | rfl | rfl | rfl
 ·obtain ⟨rfl,rfl,h1⟩:=one h;refine Eq.trans (show line _=kw 2++32::itoa (iG true r) from rfl) ?_
  rw [if_pos rfl,←h1]
 ·obtain ⟨rfl,rfl,h1⟩:=one h;refine Eq.trans (show line _=kw 3++32::itoa (iG true r) from rfl) ?_
  rw [if_pos rfl,←h1]
 ·obtain ⟨rfl,rfl,h1⟩:=one h;refine Eq.trans (show line _=kw 4++32::itoa (iG true r) from rfl) ?_
  rw [if_pos rfl,←h1]
 ·obtain ⟨rfl,rfl,h1⟩:=one h;refine Eq.trans (show line _=kw 5++32::itoa (iG true r) from rfl) ?_
  rw [if_pos rfl,←h1]
 ·
  simp only [Ad] at h;obtain ⟨h1,h2,rfl⟩:=kE h;split at h2
  ·exact absurd (mX h2).2 (by decide)
  ·rename_i hx;obtain ⟨g1,g2,g3⟩:=mY h2;obtain ⟨rfl,g5,g6,g7⟩:=two rfl g2;have t2:=jN (dM true r);rw [g6] at g1 g3 g7 h1 hx ⊢;rw [g1,if_pos rfl,←g7] at t2;have t3:=jN (dM true (dM true r));rw [g1] at h1 g3 hx ⊢;rw [h1,if_neg (by simp),List.append_nil,←g3] at t3;refine Eq.trans (show line _=kw 6++32::(itoa (iG true r)++32::(itoa (iG true (dM true r))++32::itoa (iG true (dM true (dM true r)) % 256))) from rfl) ?_
   rw [if_pos rfl,show iG true (dM true (dM true r)) % 256=iG true (dM true (dM true r)) by omega,←t3,←t2,←g5]
 ·
  simp only [Ad] at h;split at h
  ·rename_i x hw;obtain ⟨h1,h2,rfl⟩:=kE h;obtain ⟨g1,g2⟩:=Et h2;obtain ⟨rfl,g5,g6,g7⟩:=two rfl g2;have t2:=jN (dM true r);rw [g6] at g1 g7 h1 hw ⊢;rw [g1,if_pos rfl,←g7] at t2;have t3:=jN (dM true (dM true r));rw [g1] at h1 hw;rw [h1,if_neg (by simp),List.append_nil,←Nc hw] at t3;refine Eq.trans (show line _=kw 7++32::(itoa (iG true r)++32::(itoa (iG true (dM true r))++32::(if x % 2=1 then [105,111] else [115,112,97,99,101]))) from rfl) ?_
   rw [if_pos rfl,←t3,←t2,←g5]
  ·obtain ⟨_,h2,_⟩:=kE h;exact absurd (mX h2).2 (by decide)
 ·
  simp only [Ad] at h;obtain ⟨h1,h2,rfl⟩:=kE h;obtain ⟨rfl,g5,g6,g7⟩:=two rfl h2;have t2:=jN (dM true r);rw [g6] at g7 h1 ⊢;rw [h1,if_neg (by simp),List.append_nil,←g7] at t2;refine Eq.trans (show line _=kw 8++32::(itoa (iG true r)++32::itoa (iG true (dM true r))) from rfl) ?_
  rw [if_pos rfl,←t2,←g5]
 ·
  simp only [Ad] at h;split at h
  ·rename_i hm;obtain ⟨h1,h2,rfl⟩:=kE h;split at h2
   ·rename_i hk2;obtain ⟨rfl,_,g3⟩:=mY h2;have t1:=jN r;rw [hm,if_pos rfl,←g3] at t1;have t2:=jN (dM true r);rw [hm] at h1 hk2 ⊢;rw [h1,if_neg (by simp),List.append_nil] at t2;obtain ⟨k1,k2⟩:=Js hk2;refine Eq.trans (show line _=kw 9++32::(itoa (iG true r)++(if gZ (nR true (dM true r))=[] then [] else 32::nT (gZ (nR true (dM true r))))) from rfl) ?_
    rw [if_neg k2,k1,←t2,←t1,if_pos rfl]
   ·exact absurd (mX h2).2 (by decide)
  ·rename_i hm;obtain ⟨_,h2,rfl⟩:=kE h;obtain ⟨rfl,_,g3⟩:=mY h2;have t1:=jN r;rw [if_neg hm,List.append_nil,←g3] at t1;refine Eq.trans (show line _=kw 9++32::(itoa (iG true r)++[]) from rfl) ?_
   rw [List.append_nil,if_pos rfl,←t1]
 ·obtain ⟨rfl,rfl,h1⟩:=one h;refine Eq.trans (show line _=kw 10++32::itoa (iG true r) from rfl) ?_
  rw [if_pos rfl,←h1]
 ·simp only [Ad] at h;obtain ⟨rfl,_,rfl⟩:=kE h;exact (show line _=kw 11 from rfl).trans (List.append_nil _).symm
 ·obtain ⟨rfl,rfl,h1⟩:=one h;refine Eq.trans (show line _=kw 12++32::itoa (iG true r) from rfl) ?_
  rw [if_pos rfl,←h1]
 ·simp only [Ad] at h;obtain ⟨rfl,_,rfl⟩:=kE h;exact (show line _=kw 13 from rfl).trans (List.append_nil _).symm
 ·obtain ⟨rfl,rfl,h1⟩:=one h;refine Eq.trans (show line _=kw 14++32::itoa (iG true r) from rfl) ?_
  rw [if_pos rfl,←h1]
theorem Ju {s:W} {b:Act} (h:aG s=(b,0)):line b=s:=by
 have hb:=Es s;unfold aG at h;have hle:=uN (cut s).1;have hw:∀k,kindOf (cut s).1=k→k≠0→(cut s).1=kw k:=fun k h h0=>Ae h h0;generalize hk:kindOf (cut s).1=k at h hle hw
 match k,h,hle with
 | 0,h,_=>injection h with _ h2;exact absurd h2 (by decide)
 | 1,h,_=>
   have h1:=hw 1 rfl (by decide);simp only at h;split at h
   ·injection h with _ h2;exact absurd h2 (by decide)
   ·rename_i hc;injection h with h2 _;subst h2;simp only [not_or,Bool.not_eq_false] at hc;rw [hc.1,if_pos rfl,h1] at hb;simp only [line];exact hb.symm
 | k+2,h,hle=>
   have h1:=hw (k+2) rfl (by omega)
   have:=Nf ⟨by omega,by omega⟩ (fun hm=>(xY s hm).2) h
   rw [this,←h1];exact hb.symm
theorem Gj {s:W} {b:Act} (h:aG s=(b,0)):kT b=(s,0):=by
 have h1:=Ju h;unfold kT;rw [h1,h];simp only [same_eq,and_self,if_true]
theorem Jv {s:W} {b:Act} {e:Int} (h:aG s=(b,e)) (he:e≠0):b = {}:=by
 unfold aG at h
 have st:∀{a:Act} {m:Bool} {e' : Int},stop a m e'=(b,e)→b = {}:=fun {a m e'} h=>by
  have key:∀x:Int,(if x=0 then (a,(0:Int)) else ({},x))=(b,e)→b = {}:=fun x h=>by
   by_cases h0:x=0
   ·rw [if_pos h0] at h;injection h with _ h2;exact absurd h2.symm he
   ·rw [if_neg h0] at h;injection h with h1 _;exact h1.symm
  exact key _ h
 split at h
 ·injection h with h1 _;exact h1.symm
 ·split at h
  ·injection h with h1 _;exact h1.symm
  ·injection h with _ h2;exact absurd h2.symm he
 ·unfold Ad at h;simp only at h;split at h
  all_goals first
   | exact st h
   | (split at h<;>exact st h)
theorem Gm {a:Act} {t:W} (h:kT a=(t,0)):aG t=(a,0):=by
 unfold kT at h;split at h
 ·rename_i hc;injection h with h1 _;subst h1;obtain ⟨h2,h3⟩:=hc;rw [same_eq] at h3;exact Prod.ext h3.symm h2
 ·injection h with _ h2;exact absurd h2 (by decide)
end Go.aR
namespace Go.aR
set_option linter.unusedSimpArgs false
structure Fit (L:Nat) (a:Act):Prop where
 node:tO a.node
 n:tO a.n
 at_:tO a.at_
 x:0≤a.x∧a.x≤255
 text:a.text.length≤L
 keep:a.keep.length≤L+1
theorem Jw {s:W} {n:Int} (h:intOf s=some n):tO n:=by
 unfold intOf at h;split at h
 ·split at h
  ·rename_i hc;injection h with h
   have:=hc.2.2.2
   subst h
   constructor<;>omega
  ·cases h
 ·split at h
  ·rename_i hc;injection h with h
   have:=hc.2.2.2
   subst h
   constructor<;>omega
  ·cases h
theorem PU (w:W):tO (Hw w):=by
 unfold Hw y9;cases h:intOf w with
 | some n=>exact Jw h
 | none=>
   simp only;split
   ·rename_i hh;split at hh<;>cases hh
   ·constructor<;>omega
theorem U5 (L:Nat):Fit L {}:=⟨⟨by decide,by decide⟩,⟨by decide,by decide⟩,⟨by decide,by decide⟩,by decide,Nat.zero_le _,Nat.zero_le _⟩
theorem fH {L:Nat} {a:Act} {m:Bool} {e:Int} (h:Fit L a):Fit L (stop a m e).1:=by
 unfold stop;by_cases h0:(if m=true then jX e 6 else e)=0
 ·rw [if_pos h0];exact h
 ·rw [if_neg h0];exact U5 L
theorem PV (k:Nat) (m:Bool) (r:W):Fit r.length (Ad k m r).1:=by
 have z:tO (0:Int):=⟨by decide,by decide⟩;have x0:(0:Int)≤0∧(0:Int)≤255:=by decide
 have kz:([]:List Bool).length≤r.length+1:=Nat.zero_le _;have tz:([]:W).length≤r.length:=Nat.zero_le _;have c:∀m r,tO (iG m r):=fun m r=>PU _;unfold Ad;simp only;split
 ·exact fH ⟨c _ _,z,z,x0,tz,kz⟩
 ·exact fH ⟨c _ _,z,z,x0,tz,kz⟩
 ·exact fH ⟨z,c _ _,z,x0,tz,kz⟩
 ·exact fH ⟨z,c _ _,z,x0,tz,kz⟩
 ·exact fH ⟨z,c _ _,z,x0,tz,kz⟩
 ·exact fH ⟨z,c _ _,z,x0,tz,kz⟩
 ·exact fH ⟨z,c _ _,z,x0,tz,kz⟩
 ·exact fH ⟨z,c _ _,c _ _,by simp only;omega,tz,kz⟩
 ·split
  ·rename_i x hx;refine fH ⟨c _ _,c _ _,z,?_,tz,kz⟩;unfold oJ at hx;split at hx
   ·injection hx with hx;subst hx;exact ⟨show (0:Int)≤1 by decide,show (1:Int)≤255 by decide⟩
   ·split at hx
    ·injection hx with hx;subst hx;exact x0
    ·cases hx
  ·exact fH ⟨c _ _,c _ _,z,x0,tz,kz⟩
 ·exact fH ⟨c _ _,c _ _,z,x0,tz,kz⟩
 ·split
  ·refine fH ⟨c _ _,z,z,x0,tz,?_⟩;unfold gZ;rw [List.length_map];have h1:=wJ (eu m r) (dM m r);have h2:=lJ m r;omega
  ·exact fH ⟨c _ _,z,z,x0,tz,kz⟩
 ·exact fH ⟨z,z,z,x0,tz,kz⟩
theorem Jy (s:W):Fit s.length (aG s).1:=by
 unfold aG;have h:=(sZ s).2;generalize kindOf (aR.cut s).1=k
 match k with
 | 0=>exact U5 _
 | 1=>
   show Fit s.length (if (aR.cut s).2.2=false∨(10:UInt8)∈(aR.cut s).2.1 then (({}:aR.Act),(6:Int)) else ({ kind:=1,text:=(aR.cut s).2.1 },0)).1
   split
   ·exact U5 _
   ·have z:tO (0:Int):=⟨by decide,by decide⟩;exact ⟨z,z,z,⟨show (0:Int)≤0 by decide,show (0:Int)≤255 by decide⟩,h,Nat.zero_le _⟩
 | k+2=>
   have:=PV (k+2) (aR.cut s).2.2 (aR.cut s).2.1
   exact ⟨this.node,this.n,this.at_,this.x,Nat.le_trans this.text h,Nat.le_trans this.keep (by omega)⟩
end Go.aR
namespace Go.Am
set_option linter.unusedSectionVars false
variable {P:Program} [Gl]
def Vb:Result Next→Bool
 | .ok (.value _) _=>true
 | _=>false
def vOf:Result Next→Value
 | .ok (.value v) _=>v
 | _=>undef
def wOf (d:World):Result Next→World
 | .ok (.value _) w=>w
 | _=>d
theorem bW {ops:Array Oper} {Q:Exit→Act→World→Prop} {i:Nat} {rest:List Nat} {o:Oper} {a:Act} {w:World} (hi:ops[i]? = some o) (hg:o.guard.isNone=true) (hr:Vb ((execOp a.eval o).run P w)=true)
 (h:wpOps P ops Q rest (a.put o.dst (vOf ((execOp a.eval o).run P w))) (wOf w ((execOp a.eval o).run P w))):wpOps P ops Q (i::rest) a w:=by
 rw [wpOps_cons];unfold wpOp;rw [hi];have hg:o.guard=none:=by simpa using hg
 simp only [Region.wanted,hg,if_true];left;cases hx:(execOp a.eval o).run P w with
 | halt e w'=>rw [hx] at hr;cases hr
 | ok n w'=>
   rw [hx] at hr h;cases n<;>first | (cases hr;done) | exact dX hx h
theorem jl {ops:Array Oper} {Q:Exit→Act→World→Prop} {i:Nat} {rest:List Nat} {o:Oper} {a:Act} {w:World} {t g z:Nat} {x:Operand} {c:Array Value} {ty:TypeId} (hi:ops[i]? = some o) (hg:o.guard.isNone=true)
 (hop:o.op = .store t (.global g) x) (hz:(Env.of P).size t=some z) (hev:a.eval (.global g) = .pointer (some ⟨g,0,none⟩)) (hb:w.heap[g]? = some (.cells c ty (0,0)))
 (hc:(Nat.beq (a.eval x).cells.size z&&Nat.ble z c.size&&(a.eval x).cells.toList.all Value.oneCell)=true)
 (h:wpOps P ops Q rest (a.put o.dst undef) (World.row w g (.cells (dV c 0 (a.eval x).cells.toList) ty (0,0)))):wpOps P ops Q (i::rest) a w:=by
 rw [wpOps_cons];unfold wpOp;rw [hi];have hg:o.guard=none:=by simpa using hg
 simp only [Region.wanted,hg,if_true];left;simp only [Bool.and_eq_true] at hc;have h1:=bQ hc.1.1;have h2:=Nat.le_of_ble_eq_true hc.1.2;have hrun:=jQ (P:=P) (t:=t) (z:=z) (b:=g) (o:=0) (v:=a.eval x) hz hb (fun o _ h=>by omega) h1 (by omega) (fun y hy=>List.all_eq_true.1 hc.2 y (by simpa using hy));refine sD (w':=World.row w g (.cells (dV c 0 (a.eval x).cells.toList) ty (0,0))) ?_ h;simp only [execOp,hop,hev,Sem.run_bind,hrun,Result.andThen_ok,Sem.run_pure]
theorem yI {ops:Array Oper} {Q:Exit→Act→World→Prop} {i:Nat} {rest:List Nat} {o:Oper} {a:Act} {w w' : World} {f:FuncId} {args:Array Value} {v:Value} (hi:ops[i]? = some o) (hg:o.guard.isNone=true)
 (hr:(execOp a.eval o).run P w = .ok (.enter f args) w) (hC:Calls P f args w fun e w2=>e = .returned v∧w2=w') (h:wpOps P ops Q rest (a.put o.dst v) w'):wpOps P ops Q (i::rest) a w:=by
 rw [wpOps_cons];unfold wpOp;rw [hi];have hg:o.guard=none:=by simpa using hg
 simp only [Region.wanted,hg,if_true];left;unfold Oper.wp;rw [hr,Oper.upon_enter];refine hC.mono ?_
 rintro e w2 ⟨rfl,rfl⟩
 exact h
theorem iw {id:Nat} {ops:Array Oper} {y:Code} {Q:Exit→Act→World→Prop} {a:Act} {w:World} (h:wpOps P ops (fun e a2 w2=>e = .normal∧Code.wp P y Q a2 w2) (List.range ops.size) a w) :
 Code.wp P (.seq (.region id ops false) y) Q a w:=by
 intro b k cs;obtain ⟨e,a2,w2,⟨rfl,hy⟩,harr⟩:=wp_region (id:=id) h b (.code y::k) cs;obtain ⟨e,a3,w3,hq,X3⟩:=hy b k cs;exact ⟨e,a3,w3,hq,Arrives.of_steps (Steps.trans (Steps.one step_seq) harr) X3⟩
end Go.Am
namespace Go.Am
set_option linter.unusedSectionVars false
open Go.ChangeShapes Go.WideShapes Go.ChangeAt Go.WideMaps Go.WideElems Go.RowKit
variable {P:Program} [Gl] {H:Type} {enc:TypeId×Value→H}
theorem zh {W:World} {x:String×DataW Unit} {l:List (String×DataW Unit)} {ps:List MemPlace} (h:DataW.LaidVars P W (x::l) ps):∃q,DataW.LaidVars P W l q:=by
 obtain ⟨_,_,_,_,_,q,_,_,_,_,h,_⟩:=h;exact ⟨q,h⟩
theorem iK {W:World}:∀(n:Nat) {l:List (String×DataW Unit)} {ps:List MemPlace},DataW.LaidVars P W l ps→∃q,DataW.LaidVars P W (l.drop n) q
 | 0,_,ps,h=>⟨ps,h⟩
 | _+1,[],ps,h=>⟨ps,h⟩
 | n+1,_::_,_,h=>by
   obtain ⟨q,h⟩:=zh h;exact iK n h
theorem tH {W:World} {name:String} {k:IntKind} {zs:List Int} {rest:List (String×DataW Unit)} {g:Nat} {t e:TypeId} {n:Nat} {ps:List MemPlace}
 (hg:P.globalNamed name=some g) (hty:(P.globals[g]?).map (·.type)=some t) (ht:P.underlying t=some (.array n e)) (he:P.underlying e=some (.int k)) (hce:P.cellsOf e=1) (hct:P.cellsOf t=n)
 (h:DataW.LaidVars P W ((name,Lib.tabData k zs)::rest) ps):∃ty fz,W.heap[g]? = some (.cells (zs.map fun z=>Value.int k z).toArray ty fz):=by
 obtain ⟨g',t',cs,fuel,p,q,hg',ht',hvar,hd,_,_⟩:=h;obtain rfl:=Option.some.inj (hg.symm.trans hg');obtain rfl:=Option.some.inj (hty.symm.trans ht');have hcs:=Lib.cells_of_tab ht he hce hct hd;unfold World.var? at hvar;rw [hg] at hvar;simp only [Option.bind_some] at hvar;split at hvar
 ·rename_i c ty fz hh;injection hvar with hvar;subst hvar;exact ⟨ty,fz,by rw [hh,←hcs]⟩
 ·cases hvar
def yJ:List Nat→Nat→Bool
 | [],_=>true
 | k::r,m=>bif Nat.beq (Nat.mod (Nat.shiftRight m k) 2) 1 then false else yJ r (Nat.lor m (Nat.shiftLeft 1 k))
theorem Ij (m k:Nat):Nat.beq (Nat.mod (Nat.shiftRight m k) 2) 1=m.testBit k:=by
 have:m.testBit k=decide ((m >>> k) % 2=1):=by
  simp only [Nat.testBit,Nat.shiftRight_eq_div_pow,Nat.and_comm 1,Nat.and_one_is_mod];rcases Nat.mod_two_eq_zero_or_one (m / 2 ^ k) with h | h<;>rw [h]<;>rfl
 rw [this]
 show Nat.beq ((m >>> k) % 2) 1=_
 by_cases h:(m >>> k) % 2=1
 ·rw [h];rfl
 ·rw [zi h];simp [h]
theorem X4 (j:Nat) (h:j≠0):Nat.testBit 1 j=false:=by
 have h2:2≤2 ^ j:=Nat.pow_le_pow_right (n:=2) (i:=1) (by omega) (by omega);have h3:1 / 2 ^ j=0:=Nat.div_eq_of_lt (by omega);simp [Nat.testBit,Nat.shiftRight_eq_div_pow,h3]
theorem vN:∀(l:List Nat) (m:Nat),yJ l m=true→l.Nodup∧∀k∈l,m.testBit k=false
 | [],m,_=>⟨List.nodup_nil,by simp⟩
 | k::r,m,h=>by
   simp only [yJ,Ij] at h;cases hb:m.testBit k with
   | true=>rw [hb] at h;cases h
   | false=>
     rw [hb] at h;simp only [cond_false] at h;obtain ⟨h1,h2⟩:=vN r _ h
     have hbit:∀j,(Nat.lor m (Nat.shiftLeft 1 k)).testBit j=(m.testBit j||decide (k=j)):=fun j=>by
      show (m ||| 1 <<< k).testBit j=_
      rw [Nat.testBit_or,Nat.testBit_shiftLeft];congr 1;by_cases hkj:k≤j
      ·by_cases e:k=j
       ·subst e;simp
       ·have:j-k≠0:=by omega
        have h1:Nat.testBit 1 (j-k)=false:=by
         exact X4 _ this
        rw [h1];simp [e]
      ·have:k≠j:=by omega
       simp [this,hkj]
     refine ⟨List.nodup_cons.2 ⟨fun hk=>?_,h1⟩,fun j hj=>?_⟩
     ·have:=h2 k hk
      rw [hbit] at this;simp at this
     ·rcases List.mem_cons.1 hj with rfl | hj
      ·exact hb
      ·have:=h2 j hj
       rw [hbit] at this;simp only [Bool.or_eq_false_iff] at this;exact this.1
def Vd:MemPlace→Nat
 | .cell b off=>b*1024+off
 | .map b=>b*1024
theorem Eu {P:Program} {w:World} {l:List (String×DataW Unit)} (fuel:Nat) (h1:(DataW.laidRun P w fuel (l.map (·.1))).map (·.1)=some l)
 (h2:(DataW.laidRun P w fuel (l.map (·.1))).map (fun x=>yJ (x.2.map Vd) 0)=some true) (h3:(DataW.laidRun P w fuel (l.map (·.1))).map (fun x=>laidRowsB P w x.2)=some true):laidMet P l w:=by
 refine laidMet_of_run' fuel h1 ?_;cases hx:DataW.laidRun P w fuel (l.map (·.1)) with
 | none=>rw [hx] at h1;cases h1
 | some x=>
   rw [hx] at h2 h3;simp only [Option.map_some,Option.some.injEq] at h2 h3 ⊢;have hn:x.2.Nodup:=List.Pairwise.of_map Vd (fun a b h e=>h (by rw [e])) (vN _ _ h2).1;rw [h3,decide_eq_true hn];rfl
end Go.Am
namespace Go.Am
set_option linter.unusedSectionVars false
variable {P:Program} [Gl]
noncomputable def Gp (n:Nat) (k:Nat→List Nat):List Nat:=Nat.rec (motive:=fun _=>List Nat) (k 0) (fun m _=>k (Nat.succ m)) n
theorem JB (n:Nat) (k:Nat→List Nat):Gp n k=k n:=by cases n<;>rfl
noncomputable def uX (P:Program) (n:Nat):List Nat→List Nat→Nat→List Nat:=
 Nat.rec (motive:=fun _=>List Nat→List Nat→Nat→List Nat) (fun _ seen _=>seen.reverse)
  (fun _ ih todo seen m=>List.rec (motive:=fun _=>List Nat) seen.reverse (fun f todo _=>Bool.rec (motive:=fun _=>List Nat)
    (Gp (Nat.lor m (Nat.shiftLeft 1 f)) (ih ((P.funcs[f]?).elim [] P.leadsTo++todo) (f::seen))) (ih todo seen m) (MU m f)) todo) n
theorem Nn (m k:Nat):MU m k=m.testBit k:=Ij m k
theorem PZ (m k j:Nat):(Nat.lor m (Nat.shiftLeft 1 k)).testBit j=(m.testBit j||decide (k=j)):=by
 show (m ||| 1 <<< k).testBit j=_
 rw [Nat.testBit_or,Nat.testBit_shiftLeft];congr 1;by_cases hkj:k≤j
 ·by_cases e:k=j
  ·subst e;simp
  ·have:j-k≠0:=by omega
   rw [X4 _ this];simp [e]
 ·have:k≠j:=by omega
  simp [this,hkj]
theorem uY:∀(n:Nat) (todo seen:List Nat) (m:Nat),(∀k,m.testBit k=seen.contains k)→uX P n todo seen m=P.closureVia n todo seen
 | 0,todo,seen,m,_=>by
   show seen.reverse=_
   simp [Program.closureVia]
 | n+1,[],seen,m,_=>by
   show seen.reverse=_
   simp [Program.closureVia]
 | n+1,f::todo,seen,m,h=>by
   have e:uX P (n+1) (f::todo) seen m=Bool.rec (motive:=fun _=>List Nat)
    (Gp (Nat.lor m (Nat.shiftLeft 1 f)) (uX P n ((P.funcs[f]?).elim [] P.leadsTo++todo) (f::seen))) (uX P n todo seen m) (MU m f):=rfl
   rw [e,Nn,h f];simp only [Program.closureVia];cases hc:seen.contains f with
   | true=>exact uY n todo seen m h
   | false=>
     simp only [Bool.false_eq_true,if_false,JB];refine uY n _ _ _ (fun k=>?_);rw [PZ,h k];simp only [List.contains_cons];by_cases e:k=f
     ·subst e;simp
     ·have:¬f=k:=fun h=>e h.symm
      simp [this,e]
theorem Gq {f n:Nat} {L:List Nat} (hn:1+(P.funcs.toList.map fun g=>(P.leadsTo g).length+1).sum=n) (h:uX P n [f] [] 0=L):P.closure f=L:=by
 unfold Program.closure;rw [hn,←h];exact (uY n [f] [] 0 (fun k=>by simp)).symm
end Go.Am
