/-
  The console laws' arguments as data, and where the listed variables lie.
-/
import Derived.Test.YtjoefbioobdinaaGreatDoorwk
import Derived.Test.YtjoefbioobdinaaGreatDoorwn
import Derived.Test.YtjoefbioobdinaaGreatDoorwS2
import Derived.Test.YtjoefbioobdinaaGreatDoorwJt
import Derived.Test.YtjoefbioobdinaaGreatDoorwS3
import Derived.ProofKit
import Derived.LaidMore
import Derived.OpenShut
import Derived.Stop.Joined
namespace Go.Proofs.YtjoefbioobdinaaGreatDoor
open Go.ChangeShapes Go.WideShapes Go.ChangeAt Go.WideMaps Go.WideElems Go.RowKit Am
open Go.ay hiding cut intOf take split
set_option maxRecDepth 1000000
theorem abe:ownKnob Tryz.prog.godebug=none:=by kernel_rfl
theorem Vx:laidOutB Tryz.prog=true:=Dj.1
theorem EU:(L9.filter fun x=>x.2.handleName?.isSome)=[]:=by kernel_rfl
theorem JQ (os:Os) (args:Array Value):laidMet Tryz.prog L9 ((wP os).forCall (fun _ _=>0) ⟨#[],args,[]⟩).memory:=by
 have h:((wP os).forCall (fun _ _=>0) ⟨#[],args,[]⟩).memory=wP default:=by
  unfold World.memory World.forCall wP;rw [Input.heap_fresh rfl];simp
 rw [h];exact ET 8 s8 s9 s10
theorem GQ (os:Os) (args:Array Value):laidMetH Tryz.prog L9 ((wP os).forCall (fun _ _=>0) ⟨#[],args,[]⟩).memory:=by
 unfold laidMetH;rw [EU];exact JQ os args
theorem Yz (os:Os) (args:Array Value):((wP os).forCall (fun _ _=>0) ⟨#[],args,[]⟩).variablesRefB Tryz.prog=true:=by kernel_rfl
theorem YA (os:Os) (args:Array Value):(((wP os).forCall (fun _ _=>0) ⟨#[],args,[]⟩).heap.toList.drop Tryz.prog.globals.size).take ((begin Tryz.prog (fun _ _=>0) default).world.heap.size-Tryz.prog.globals.size)=(begin Tryz.prog (fun _ _=>0) default).world.heap.toList.drop Tryz.prog.globals.size:=by kernel_rfl
theorem NH (os:Os) (args:Array Value):((wP os).forCall (fun _ _=>0) ⟨#[],args,[]⟩).Shaped Tryz.prog:=World.shaped_of_RefB (Yz os args) (YA os args)
theorem Vy:(Rows.laid_strings_asciiSpace:DataW Unit)=Lib.tabData .u8 Lib.asciiSpaceTab:=by kernel_rfl
theorem abf:(Rows.laid_internal_strconv_uint64pow10:DataW Unit)=Lib.tabData .u64 Lib.pow10Tab:=by kernel_rfl
theorem NI {P:Program} {w:World} {fuel:Nat} {t:TypeId} {ms:Array (String×TypeId)} {cs:List Value} {nm:String} {x:DataW Unit} {p:List MemPlace} (ht:P.underlying t=some (.interface ms))
 (h:DataW.trod (fun _=>()) P w 0 (fun _=>true) false fuel t cs=some (.iface nm x,p)):∃u v,cs=[.iface u v]:=by
 cases fuel with
 | zero=>simp [DataW.trod] at h
 | succ fuel=>
   unfold DataW.trod at h;rw [ht] at h
   split at h<;>first
    | exact ⟨_,_,rfl⟩
    | (rename_i hh;cases hh;done)
    | (rename_i hh _;cases hh;done)
    | (simp at h;done)
theorem uw {P:Program} {W:World} {name nm:String} {x:DataW Unit} {rest:List (String×DataW Unit)} {g:Nat} {t:TypeId} {ms:Array (String×TypeId)} {ps:List MemPlace}
 (hg:P.globalNamed name=some g) (hty:(P.globals[g]?).map (·.type)=some t) (ht:P.underlying t=some (.interface ms))
 (h:DataW.LaidVars P W ((name,.iface nm x)::rest) ps):∃c ty fz,W.heap[g]? = some (.cells c ty fz)∧vg c:=by
 obtain ⟨g',t',cs,fuel,p,q,hg',ht',hvar,hd,_,_⟩:=h;obtain rfl:=Option.some.inj (hg.symm.trans hg');obtain rfl:=Option.some.inj (hty.symm.trans ht');obtain ⟨u,v,hcs⟩:=NI ht hd;unfold World.var? at hvar;rw [hg] at hvar;simp only [Option.bind_some] at hvar;split at hvar
 ·rename_i c ty fz hh;injection hvar with hvar;subst hvar;refine ⟨c,ty,fz,hh,u,v,?_⟩;apply Array.toList_inj.1;rw [hcs]
 ·cases hvar
theorem Qk {W:World} (h:laidMetH Tryz.prog L9 W):∀p∈Gl.gl,∃c ty fz,W.heap[p.1]? = some (.cells c ty fz)∧p.2 c:=by
 unfold laidMetH at h;rw [EU] at h;obtain ⟨ps,h,_⟩:=h;obtain ⟨q1,h1⟩:=jc 7 h;obtain ⟨q2,h2⟩:=jc 0 h;obtain ⟨q3,h3⟩:=jc 3 h;obtain ⟨q4,h4⟩:=jc 4 h;intro p hp;simp only [Gl.gl,List.mem_cons,List.mem_nil_iff,or_false] at hp;rcases hp with rfl | rfl | rfl | rfl
 ·have h3:DataW.LaidVars Tryz.prog W (("strings.asciiSpace",Lib.tabData .u8 Lib.asciiSpaceTab)::L9.drop (7+1)) q1:=by
   rw [←Vy];exact h1
  obtain ⟨ty,fz,e⟩:=uq (t:=297) (e:=5) (n:=256) yE (by kernel_rfl) Tryz.underlying297 Tryz.underlying5 (by kernel_rfl) (by kernel_rfl) h3;exact ⟨_,ty,fz,e,rfl⟩
 ·have h3:DataW.LaidVars Tryz.prog W (("internal/strconv.uint64pow10",Lib.tabData .u64 Lib.pow10Tab)::L9.drop (0+1)) q2:=by
   rw [←abf];exact h2
  obtain ⟨ty,fz,e⟩:=uq (t:=322) (e:=97) (n:=20) yF (by kernel_rfl) Tryz.underlying322 Tryz.underlying97 (by kernel_rfl) (by kernel_rfl) h3;exact ⟨_,ty,fz,e,rfl⟩
 ·exact uw (t:=137) Es (by kernel_rfl) Tryz.underlying137 (x:=_) (nm:=_) (rest:=L9.drop (3+1)) h3
 ·exact uw (t:=137) Et (by kernel_rfl) Tryz.underlying137 (x:=_) (nm:=_) (rest:=L9.drop (4+1)) h4
theorem Ql:fT Tryz.prog 25=true:=by kernel_rfl
theorem wf_i64 {n:Int} (h:(Lit.int .i64 n).wf=true):gK n:=by
 unfold Lit.wf at h;rw [Bool.and_eq_true] at h;exact ⟨of_decide_eq_true h.1,of_decide_eq_true h.2⟩
theorem wf_u8 {n:Int} (h:(Lit.int .u8 n).wf=true):0≤n∧n≤255:=by
 unfold Lit.wf at h;rw [Bool.and_eq_true] at h;exact ⟨of_decide_eq_true h.1,of_decide_eq_true h.2⟩
theorem bls {ks:List DV} (h:∀x∈ks,x=vk (fT Tryz.prog 4) x.cells∧x.cells.length=Tryz.prog.cellsOf 4∧Ty Tryz.prog 4 x.cells):ks.all jI=true:=by
 rw [List.all_eq_true];intro x hx;obtain ⟨g1,_,g3⟩:=h x hx;obtain ⟨b,e⟩:=g3.LK Tryz.underlying4;rw [e,(by kernel_rfl:fT Tryz.prog 4=false)] at g1;rw [g1];rfl
theorem Vz {xs:List DV} (h:Ty Tryz.prog 25 xs):∃kd nd n a x tx ks,DV.agg xs=bR kd nd n a x tx (.aC 1 ks false)∧gK nd∧gK n∧gK a∧(0≤x∧x≤255)∧ks.all jI=true:=by
 have hu:∃fs,Tryz.prog.underlying 25=some (.struct fs)∧(fs[0]?.map fun f=>(f.type,f.offset))=some (3,0)∧(fs[1]?.map fun f=>(f.type,f.offset))=some (3,1)∧(fs[2]?.map fun f=>(f.type,f.offset))=some (3,2)∧(fs[3]?.map fun f=>(f.type,f.offset))=some (3,3)∧(fs[4]?.map fun f=>(f.type,f.offset))=some (5,4)∧(fs[5]?.map fun f=>(f.type,f.offset))=some (9,5)∧(fs[6]?.map fun f=>(f.type,f.offset))=some (23,6):=
  ⟨_,Tryz.underlying25,rfl,rfl,rfl,rfl,rfl,rfl,rfl⟩
 obtain ⟨fs,hu,e0,e1,e2,e3,e4,e5,e6⟩:=hu;obtain ⟨hl,hf⟩:=h.Gd hu;rw [(by kernel_rfl:Tryz.prog.cellsOf 25=7)] at hl
 match xs,hl with
 | [v0,v1,v2,v3,v4,v5,v6],_=>
   simp only [Option.map_eq_some_iff,Prod.mk.injEq] at e0 e1 e2 e3 e4 e5 e6;obtain ⟨f0,h0,t0,o0⟩:=e0;obtain ⟨f1,h1,t1,o1⟩:=e1;obtain ⟨f2,h2,t2,o2⟩:=e2;obtain ⟨f3,h3,t3,o3⟩:=e3;obtain ⟨f4,h4,t4,o4⟩:=e4;obtain ⟨f5,h5,t5,o5⟩:=e5;obtain ⟨f6,h6,t6,o6⟩:=e6;have k0:=hf 0 f0 h0;have k1:=hf 1 f1 h1;have k2:=hf 2 f2 h2;have k3:=hf 3 f3 h3;have k4:=hf 4 f4 h4;have k5:=hf 5 f5 h5;have k6:=hf 6 f6 h6;have ci:Tryz.prog.cellsOf 3=1:=by kernel_rfl
   rw [t0,o0,ci] at k0;rw [t1,o1,ci] at k1;rw [t2,o2,ci] at k2;rw [t3,o3,ci] at k3;rw [t4,o4,(by kernel_rfl:Tryz.prog.cellsOf 5=1)] at k4;rw [t5,o5,(by kernel_rfl:Tryz.prog.cellsOf 9=1)] at k5;rw [t6,o6,(by kernel_rfl:Tryz.prog.cellsOf 23=1)] at k6;obtain ⟨n0,q0,_⟩:=k0.tY (k:=.i64) Tryz.underlying3;obtain ⟨n1,q1,w1⟩:=k1.tY (k:=.i64) Tryz.underlying3;obtain ⟨n2,q2,w2⟩:=k2.tY (k:=.i64) Tryz.underlying3;obtain ⟨n3,q3,w3⟩:=k3.tY (k:=.i64) Tryz.underlying3;obtain ⟨n4,q4,w4⟩:=k4.tY (k:=.u8) Tryz.underlying5;obtain ⟨s5,q5,_⟩:=k5.O7 Tryz.underlying9;obtain ⟨ks,q6,_,w6⟩:=k6.O8 Tryz.underlying23;rw [(by kernel_rfl:Tryz.prog.cellsOf 4=1)] at q6;simp only [List.drop_zero,List.drop_succ_cons,List.take_succ_cons,List.take_zero,List.cons.injEq,and_true] at q0 q1 q2 q3 q4 q5 q6;subst q0 q1 q2 q3 q4 q5 q6;exact ⟨n0,n1,n2,n3,n4,s5,ks,rfl,wf_i64 w1,wf_i64 w2,wf_i64 w3,wf_u8 w4,bls w6⟩
end Go.Proofs.YtjoefbioobdinaaGreatDoor
