/-
  The console laws' arguments as data, and where the listed variables lie.
-/
import Derived.Test.YtjoefbioobdinaaGreatDoorrm
import Derived.Test.YtjoefbioobdinaaGreatDoorrn
import Derived.Test.YtjoefbioobdinaaGreatDoorrS2
import Derived.Test.YtjoefbioobdinaaGreatDoorrJt
import Derived.Test.YtjoefbioobdinaaGreatDoorrS3
import Derived.ProofKit
import Derived.LaidMore
import Derived.OpenShut
import Derived.Stop.Joined
namespace Go.Proofs.YtjoefbioobdinaaGreatDoor
open Go.ChangeShapes Go.WideShapes Go.ChangeAt Go.WideMaps Go.WideElems Go.RowKit Am
open Go.aQ hiding cut intOf take split
set_option maxRecDepth 1000000
theorem abN:ownKnob Tryz.prog.godebug=none:=by kernel_rfl
theorem Ws:laidOutB Tryz.prog=true:=DN.1
theorem FD:(L9.filter fun x=>x.2.handleName?.isSome)=[]:=by kernel_rfl
theorem Kr (os:Os) (args:Array Value):laidMet Tryz.prog L9 ((wP os).forCall (fun _ _=>0) ⟨#[],args,[]⟩).memory:=by
 have h:((wP os).forCall (fun _ _=>0) ⟨#[],args,[]⟩).memory=wP default:=by
  unfold World.memory World.forCall wP;rw [Input.heap_fresh rfl];simp
 rw [h];exact FC 8 s8 s9 s10
theorem Ib (os:Os) (args:Array Value):laidMetH Tryz.prog L9 ((wP os).forCall (fun _ _=>0) ⟨#[],args,[]⟩).memory:=by
 unfold laidMetH;rw [FD];exact Kr os args
theorem Y6 (os:Os) (args:Array Value):((wP os).forCall (fun _ _=>0) ⟨#[],args,[]⟩).variablesRefB Tryz.prog=true:=by kernel_rfl
theorem Y7 (os:Os) (args:Array Value):(((wP os).forCall (fun _ _=>0) ⟨#[],args,[]⟩).heap.toList.drop Tryz.prog.globals.size).take ((begin Tryz.prog (fun _ _=>0) default).world.heap.size-Tryz.prog.globals.size)=(begin Tryz.prog (fun _ _=>0) default).world.heap.toList.drop Tryz.prog.globals.size:=by kernel_rfl
theorem Oq (os:Os) (args:Array Value):((wP os).forCall (fun _ _=>0) ⟨#[],args,[]⟩).Shaped Tryz.prog:=World.shaped_of_RefB (Y6 os args) (Y7 os args)
theorem Wt:(Rows.laid_strings_asciiSpace:DataW Unit)=Lib.tabData .u8 Lib.asciiSpaceTab:=by kernel_rfl
theorem abO:(Rows.laid_internal_strconv_uint64pow10:DataW Unit)=Lib.tabData .u64 Lib.pow10Tab:=by kernel_rfl
theorem Ot {P:Program} {w:World} {fuel:Nat} {t:TypeId} {ms:Array (String×TypeId)} {cs:List Value} {nm:String} {x:DataW Unit} {p:List MemPlace} (ht:P.underlying t=some (.interface ms))
 (h:DataW.trod (fun _=>()) P w 0 (fun _=>true) false fuel t cs=some (.iface nm x,p)):∃u v,cs=[.iface u v]:=by
 cases fuel with
 | zero=>simp [DataW.trod] at h
 | succ fuel=>
   unfold DataW.trod at h;rw [ht] at h
   split at h<;>first
    | exact ⟨_,_,rfl⟩
    | (rename_i hh;cases hh;done)
    | (rename_i hh _;cases hh;done)
    | (simp at h;done)
theorem uF {P:Program} {W:World} {name nm:String} {x:DataW Unit} {rest:List (String×DataW Unit)} {g:Nat} {t:TypeId} {ms:Array (String×TypeId)} {ps:List MemPlace}
 (hg:P.globalNamed name=some g) (hty:(P.globals[g]?).map (·.type)=some t) (ht:P.underlying t=some (.interface ms))
 (h:DataW.LaidVars P W ((name,.iface nm x)::rest) ps):∃c ty fz,W.heap[g]? = some (.cells c ty fz)∧vI c:=by
 obtain ⟨g',t',cs,fuel,p,q,hg',ht',hvar,hd,_,_⟩:=h;obtain rfl:=Option.some.inj (hg.symm.trans hg');obtain rfl:=Option.some.inj (hty.symm.trans ht');obtain ⟨u,v,hcs⟩:=Ot ht hd;unfold World.var? at hvar;rw [hg] at hvar;simp only [Option.bind_some] at hvar;split at hvar
 ·rename_i c ty fz hh;injection hvar with hvar;subst hvar;refine ⟨c,ty,fz,hh,u,v,?_⟩;apply Array.toList_inj.1;rw [hcs]
 ·cases hvar
theorem QI {W:World} (h:laidMetH Tryz.prog L9 W):∀p∈Gl.gl,∃c ty fz,W.heap[p.1]? = some (.cells c ty fz)∧p.2 c:=by
 unfold laidMetH at h;rw [FD] at h;obtain ⟨ps,h,_⟩:=h;obtain ⟨q1,h1⟩:=jg 7 h;obtain ⟨q2,h2⟩:=jg 0 h;obtain ⟨q3,h3⟩:=jg 3 h;obtain ⟨q4,h4⟩:=jg 4 h;intro p hp;simp only [Gl.gl,List.mem_cons,List.mem_nil_iff,or_false] at hp;rcases hp with rfl | rfl | rfl | rfl
 ·have h3:DataW.LaidVars Tryz.prog W (("strings.asciiSpace",Lib.tabData .u8 Lib.asciiSpaceTab)::L9.drop (7+1)) q1:=by
   rw [←Wt];exact h1
  obtain ⟨ty,fz,e⟩:=uE (t:=297) (e:=5) (n:=256) yR (by kernel_rfl) Tryz.underlying297 Tryz.underlying5 (by kernel_rfl) (by kernel_rfl) h3;exact ⟨_,ty,fz,e,rfl⟩
 ·have h3:DataW.LaidVars Tryz.prog W (("internal/strconv.uint64pow10",Lib.tabData .u64 Lib.pow10Tab)::L9.drop (0+1)) q2:=by
   rw [←abO];exact h2
  obtain ⟨ty,fz,e⟩:=uE (t:=322) (e:=97) (n:=20) yS (by kernel_rfl) Tryz.underlying322 Tryz.underlying97 (by kernel_rfl) (by kernel_rfl) h3;exact ⟨_,ty,fz,e,rfl⟩
 ·exact uF (t:=137) ES (by kernel_rfl) Tryz.underlying137 (x:=_) (nm:=_) (rest:=L9.drop (3+1)) h3
 ·exact uF (t:=137) ET (by kernel_rfl) Tryz.underlying137 (x:=_) (nm:=_) (rest:=L9.drop (4+1)) h4
theorem QJ:gX Tryz.prog 9=false:=by kernel_rfl
end Go.Proofs.YtjoefbioobdinaaGreatDoor
