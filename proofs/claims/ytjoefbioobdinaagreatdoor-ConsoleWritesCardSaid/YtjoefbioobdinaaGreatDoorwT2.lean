/-
  The walk of the program's own initialisers (gosem.cut.vars): the memory that they leave.
-/
import Derived.Test.YtjoefbioobdinaaGreatDoorwm
import Derived.Test.YtjoefbioobdinaaGreatDoorwS1
namespace Go.Proofs.YtjoefbioobdinaaGreatDoor
open Go.RowKit Am
set_option maxRecDepth 1000000
noncomputable def vF:Func:=(Tryz.prog.funcs[799]?).getD default
noncomputable def YE:Code:=vF.body.getD .skip
noncomputable def FW (r:Nat):Array Oper:=(bg r YE).getD #[]
noncomputable def vO (r k:Nat):Oper:=((FW r)[k]?).getD default
noncomputable def Qp (k:Nat):ByteArray:=match (Ob (NC[k]?)).getD 0 undef with
 | .string s=>s
 | _=>.empty
theorem YF:Tryz.prog.funcs[799]? = some vF:=by kernel_rfl
theorem NM:vF.body=some (.seq (.region 0 #[vO 0 0,vO 0 1] false) (.seq (.region 1 #[vO 1 0,vO 1 1] false) (.seq (.region 2 #[vO 2 0,vO 2 1] false) (.seq (.region 3 #[vO 3 0,vO 3 1,vO 3 2,vO 3 3,vO 3 4,vO 3 5,vO 3 6] false) (.seq (.region 4 #[vO 4 0,vO 4 1] false) (.seq (.region 5 #[vO 5 0,vO 5 1] false) (.seq (.region 6 #[vO 6 0,vO 6 1,vO 6 2,vO 6 3,vO 6 4,vO 6 5,vO 6 6,vO 6 7,vO 6 8,vO 6 9,vO 6 10] false) (.seq (.region 7 #[vO 7 0,vO 7 1] false) (.region 8 #[vO 8 0,vO 8 1] false))))))))):=by kernel_rfl
set_option maxHeartbeats 1000000 in
theorem NP (s:ByteArray) (w:World):Calls Tryz.prog 408 #[.string s] w fun e w'=>e = .returned (.iface 624 (.pointer (some ⟨w.heap.size,0,none⟩)))∧w'=w.alloc (.cells #[.string s] 626):=by
 go_enter Tryz.func408,Tryz.ntmps408
 go_wp2
 go_ret
 exact ⟨rfl,rfl⟩
theorem JV (t:Tape) (d:Nat) (os:Os) (u:Array (Nat×ByteArray)):Calls Tryz.prog 799 #[] { heap:=vH,tape:=t,drawn:=d,os:=os,output:=u } fun e w'=>∃v,e = .returned v∧w'.heap=NC:=by
 refine calls_of_wp YF NM ?_;refine iM ?_
 show wpOps Tryz.prog #[vO 0 0,vO 0 1] _ [0,1] _ _
 refine dx (o:=vO 0 0) rfl (by kernel_rfl) (by kernel_rfl) ?_;refine jJ (o:=vO 0 1) (t:=508) (g:=6) (z:=32) (x:=.tmp 0) (c:=Ob (vH[6]?)) (ty:=508) rfl (by kernel_rfl) (by kernel_rfl) (by kernel_rfl) (by kernel_rfl) (by kernel_rfl) (by kernel_rfl) ?_;refine ⟨rfl,?_⟩;refine iM ?_
 show wpOps Tryz.prog #[vO 1 0,vO 1 1] _ [0,1] _ _
 refine dx (o:=vO 1 0) rfl (by kernel_rfl) (by kernel_rfl) ?_;refine jJ (o:=vO 1 1) (t:=243) (g:=7) (z:=64) (x:=.tmp 1) (c:=Ob (vH[7]?)) (ty:=243) rfl (by kernel_rfl) (by kernel_rfl) (by kernel_rfl) (by kernel_rfl) (by kernel_rfl) (by kernel_rfl) ?_;refine ⟨rfl,?_⟩;refine iM ?_
 show wpOps Tryz.prog #[vO 2 0,vO 2 1] _ [0,1] _ _
 refine dx (o:=vO 2 0) rfl (by kernel_rfl) (by kernel_rfl) ?_;refine jJ (o:=vO 2 1) (t:=322) (g:=3) (z:=20) (x:=.tmp 2) (c:=Ob (vH[3]?)) (ty:=322) rfl (by kernel_rfl) (by kernel_rfl) (by kernel_rfl) (by kernel_rfl) (by kernel_rfl) (by kernel_rfl) ?_;refine ⟨rfl,?_⟩;refine iM ?_
 show wpOps Tryz.prog #[vO 3 0,vO 3 1,vO 3 2,vO 3 3,vO 3 4,vO 3 5,vO 3 6] _ [0,1,2,3,4,5,6] _ _
 refine dx (o:=vO 3 0) rfl (by kernel_rfl) (by kernel_rfl) ?_;refine dx (o:=vO 3 1) rfl (by kernel_rfl) (by kernel_rfl) ?_;refine dx (o:=vO 3 2) rfl (by kernel_rfl) (by kernel_rfl) ?_;refine dx (o:=vO 3 3) rfl (by kernel_rfl) (by kernel_rfl) ?_;refine dx (o:=vO 3 4) rfl (by kernel_rfl) (by kernel_rfl) ?_;refine dx (o:=vO 3 5) rfl (by kernel_rfl) (by kernel_rfl) ?_;refine jJ (o:=vO 3 6) (t:=300) (g:=2) (z:=32) (x:=.tmp 8) (c:=Ob (vH[2]?)) (ty:=300) rfl (by kernel_rfl) (by kernel_rfl) (by kernel_rfl) (by kernel_rfl) (by kernel_rfl) (by kernel_rfl) ?_;refine ⟨rfl,?_⟩;refine iM ?_
 show wpOps Tryz.prog #[vO 4 0,vO 4 1] _ [0,1] _ _
 refine y5 (o:=vO 4 0) (f:=408) (args:=#[.string (Qp 16)]) rfl (by kernel_rfl) (by kernel_rfl) (NP (Qp 16) _) ?_;refine jJ (o:=vO 4 1) (t:=137) (g:=5) (z:=1) (x:=.tmp 9) (c:=Ob (vH[5]?)) (ty:=137) rfl (by kernel_rfl) (by kernel_rfl) (by kernel_rfl) (by kernel_rfl) (by kernel_rfl) (by kernel_rfl) ?_;refine ⟨rfl,?_⟩;refine iM ?_
 show wpOps Tryz.prog #[vO 5 0,vO 5 1] _ [0,1] _ _
 refine y5 (o:=vO 5 0) (f:=408) (args:=#[.string (Qp 17)]) rfl (by kernel_rfl) (by kernel_rfl) (NP (Qp 17) _) ?_;refine jJ (o:=vO 5 1) (t:=137) (g:=4) (z:=1) (x:=.tmp 10) (c:=Ob (vH[4]?)) (ty:=137) rfl (by kernel_rfl) (by kernel_rfl) (by kernel_rfl) (by kernel_rfl) (by kernel_rfl) (by kernel_rfl) ?_;refine ⟨rfl,?_⟩;refine iM ?_
 show wpOps Tryz.prog #[vO 6 0,vO 6 1,vO 6 2,vO 6 3,vO 6 4,vO 6 5,vO 6 6,vO 6 7,vO 6 8,vO 6 9,vO 6 10] _ [0,1,2,3,4,5,6,7,8,9,10] _ _
 refine dx (o:=vO 6 0) rfl (by kernel_rfl) (by kernel_rfl) ?_;refine dx (o:=vO 6 1) rfl (by kernel_rfl) (by kernel_rfl) ?_;refine dx (o:=vO 6 2) rfl (by kernel_rfl) (by kernel_rfl) ?_;refine dx (o:=vO 6 3) rfl (by kernel_rfl) (by kernel_rfl) ?_;refine dx (o:=vO 6 4) rfl (by kernel_rfl) (by kernel_rfl) ?_;refine dx (o:=vO 6 5) rfl (by kernel_rfl) (by kernel_rfl) ?_;refine dx (o:=vO 6 6) rfl (by kernel_rfl) (by kernel_rfl) ?_;refine dx (o:=vO 6 7) rfl (by kernel_rfl) (by kernel_rfl) ?_;refine dx (o:=vO 6 8) rfl (by kernel_rfl) (by kernel_rfl) ?_;refine dx (o:=vO 6 9) rfl (by kernel_rfl) (by kernel_rfl) ?_;refine jJ (o:=vO 6 10) (t:=769) (g:=10) (z:=1) (x:=.tmp 20) (c:=Ob (vH[10]?)) (ty:=769) rfl (by kernel_rfl) (by kernel_rfl) (by kernel_rfl) (by kernel_rfl) (by kernel_rfl) (by kernel_rfl) ?_;refine ⟨rfl,?_⟩;refine iM ?_
 show wpOps Tryz.prog #[vO 7 0,vO 7 1] _ [0,1] _ _
 refine dx (o:=vO 7 0) rfl (by kernel_rfl) (by kernel_rfl) ?_;refine jJ (o:=vO 7 1) (t:=769) (g:=9) (z:=1) (x:=.tmp 21) (c:=Ob (vH[9]?)) (ty:=769) rfl (by kernel_rfl) (by kernel_rfl) (by kernel_rfl) (by kernel_rfl) (by kernel_rfl) (by kernel_rfl) ?_;refine ⟨rfl,?_⟩;refine wp_region ?_
 show wpOps Tryz.prog #[vO 8 0,vO 8 1] _ [0,1] _ _
 refine dx (o:=vO 8 0) rfl (by kernel_rfl) (by kernel_rfl) ?_;refine jJ (o:=vO 8 1) (t:=297) (g:=8) (z:=256) (x:=.tmp 22) (c:=Ob (vH[8]?)) (ty:=297) rfl (by kernel_rfl) (by kernel_rfl) (by kernel_rfl) (by kernel_rfl) (by kernel_rfl) (by kernel_rfl) ?_;exact ⟨by kernel_rfl,.tuple #[],by kernel_rfl,.tuple #[],rfl,by kernel_rfl⟩
end Go.Proofs.YtjoefbioobdinaaGreatDoor
