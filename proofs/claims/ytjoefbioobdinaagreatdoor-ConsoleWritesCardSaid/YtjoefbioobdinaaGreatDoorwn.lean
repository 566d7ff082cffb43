/-
  Texts that the claim leans on: N10, N8, ConBack, ConFit, AmTw, AmLw, AmCl.
-/
import Derived.Test.YtjoefbioobdinaaGreatDoorwh
import Derived.Test.YtjoefbioobdinaaGreatDoorwi
import Derived.Test.YtjoefbioobdinaaGreatDoorwm
import Derived.Maps.Keyed
import Derived.Maps.Range
import Derived.Lib.LaidTab
import Derived.LaidLaws
namespace Go.Proofs.YtjoefbioobdinaaGreatDoor
open Go.RowKit Am Go.Maps Go.Sort Go.Shelf
set_option maxRecDepth 100000
set_option linter.unusedVariables false
theorem Qh (m:Nat):AnyZI.SortsIn Tryz.prog Tryz.sortedA_ren Fence.wide m:=
 ⟨fun blk off cap ss W hH hblk hsz=>callsIn_wide.2 (AnyM.slices_Sort_int Tryz.sortA blk off cap ss W hH hblk hsz),
  fun p cap W=>callsIn_wide.2 (AnyM.slices_Sort_int_none Tryz.sortA p cap W)⟩
theorem Di {H:Type} (Bm b nn:Nat) (D0:DataW H) (R:Value→Option (DataW H×List MemPlace)) (w:World) (hBm:Bm < w.heap.size) (hm:w.cell? ⟨Bm,0,none⟩=some (.map (some b))) (hown:w.ownsMap Tryz.prog 3 R b nn D0) (hmax:Maps.size D0≤maxLen) (hbytes:Maps.size D0*8≤140737488355328) :
 Calls Tryz.prog 155 #[.func (.func 535) #[] #[.pointer (some ⟨Bm,0,none⟩)]] w fun e w'=>∃(v:Value) (ss:List Int),e = .returned v∧ss.Perm (intKeys D0)∧
  w'.ownsRow w.heap.size 3 1 v ss.length ((ss.mergeSort (fun x y=>decide (x≤y))).map encZ)∧(v = .slice none 0 0↔ss=[])∧Below w.heap.size w w':=by
 have hseq:SeqGives Fence.wide 2 Tryz.prog 535 #[.pointer (some ⟨Bm,0,none⟩)] encZ (fun ss=>ss.Perm (intKeys D0)) (Maps.size D0) w:=
  AnyZI.keys_gives (ρ:=Tryz.keysA_ren) { Tryz.keysA with } Fence.wide _ trivial rfl (by omega) Bm b nn D0 _ hBm hm hown
 exact (callsIn_wide (n:=5)).1 (AnyZI.sorted_in Tryz.sortedA Fence.wide 5 trivial trivial trivial trivial rfl (by omega) (Qh _) (enters_of Tryz.func223 (by kernel_rfl) rfl) 535 #[.pointer (some ⟨Bm,0,none⟩)] trivial (enters_of Tryz.func535 (by kernel_rfl) rfl) _ _ hmax hbytes _ hseq)
def yY:DV×DV→Int
 | (.int _ k,_)=>k
 | _=>0
def isKey:DV×DV→Bool
 | (.int .i64 _,_)=>true
 | _=>false
def Qi (x:Int):List Int→List Int
 | []=>[x]
 | y::r=>if x≤y then x::y::r else y::Qi x r
def wz:List Int→List Int
 | []=>[]
 | x::r=>Qi x (wz r)
theorem A8 (x:Int):∀l,(Qi x l).Perm (x::l)
 | []=>.refl _
 | y::r=>by
   unfold Qi;split
   ·exact .refl _
   ·exact ((A8 x r).cons y).trans (.swap _ _ _)
theorem yZ:∀l,(wz l).Perm l
 | []=>.refl _
 | x::r=>(A8 x _).trans ((yZ r).cons x)
def VU:List Int→Int→Bool
 | [],_=>true
 | k::r,b=>decide (b < k∧k≤1000000)&&VU r k
theorem ER:∀{ks:List Int} {b:Int},VU ks b=true→(∀k∈ks,b < k∧k≤1000000)∧ks.Pairwise (· < ·)
 | [],_,_=>by simp
 | k::r,b,h=>by
   simp only [VU,Bool.and_eq_true,decide_eq_true_eq] at h;obtain ⟨h1,h2⟩:=ER h.2;refine ⟨fun x hx=>?_,?_⟩
   ·rcases List.mem_cons.1 hx with rfl | hx
    ·exact h.1
    ·have:=h1 x hx;exact ⟨by omega,this.2⟩
   ·rw [List.pairwise_cons];exact ⟨fun x hx=>(h1 x hx).1,h2⟩
theorem aag:Tryz.prog.underlying 3=some (.int .i64):=by kernel_rfl
abbrev uo:Value→Option (DataW Unit×List MemPlace):=fun _=>some (.nil,[])
abbrev lT (es:List (DV×DV)):List DV:=(wz (es.map yY)).map fun k=>.int .i64 k
theorem Nt (es:List (DV×DV)) (T:Nat) (hl:es.length≤1000) (hi:es.all isKey=true) (hu:VU (wz (es.map yY)) (-1)=true) :
 C Tryz.prog 155 [.gI (.func 535) [] [.ptr 0 0]] [.box T [.map 1],.map es]
  (fun r o=>r = .d (.aC 1 (lT es) false)∧o=[.box T [.map 1],.map es]):=by
 obtain ⟨hk0,hp⟩:=ER hu;have hpm:=yZ (es.map yY)
 have hk:∀p∈es,p.1 = .int .i64 (yY p)∧-1 < yY p∧yY p≤1000000:=fun p hp=>by
  refine ⟨?_,hk0 (yY p) (hpm.mem_iff.2 (List.mem_map.2 ⟨p,hp,rfl⟩))⟩
  have:=List.all_eq_true.1 hi p hp
  obtain ⟨x,y⟩:=p;cases x<;>simp [isKey] at this
  rename_i k n;cases k<;>simp at this
  rfl
 intro κ φ w vs h1 h2 h3 h4
 have hv:∃bm,vs = #[.func (.func 535) #[] #[.pointer (some ⟨bm,0,none⟩)]]∧φ 0 = .at bm:=by
  have hs:vs.size=1:=by simpa using h3
  have:=h4 0 _ vs[0] rfl (by simp [hs])
  generalize hx:vs[0]=x at this;cases this with
  | gI hfl hcl hf hc=>
    rename_i f c;have e1:f = #[]:=by apply Array.eq_empty_of_size_eq_zero;simpa using hfl
    have hcs:c.size=1:=by simpa using hcl
    have:=hc 0 (.ptr 0 0) c[0] rfl (by simp [hcs])
    generalize hy:c[0]=y at this;cases this with
    | ptr hφ=>
      rename_i bm;refine ⟨bm,?_,hφ⟩;apply Array.ext
      ·simp [hs]
      ·intro i hi hi2
       have:i=0:=by simp at hi2;omega
       subst this;rw [hx,e1]
       have:c = #[.pointer (some ⟨bm,0,none⟩)]:=by
        apply Array.ext
        ·simp [hcs]
        ·intro i hi hi2
         have:i=0:=by simp at hi2;omega
         subst this;rw [hy];rfl
       rw [this];rfl
 obtain ⟨bm,rfl,hφ0⟩:=hv;have o0:=h1 0;obtain ⟨b0,c,q1,q2,q3,q4,q5,q6⟩:=o0;have hb0:b0=bm:=by rw [q1] at hφ0;injection hφ0
 subst hb0;have o1:=h1 1;obtain ⟨b,eB,clock,g1,g2,g3,⟨g4,gn⟩,g5⟩:=o1;have hcs:c.size=1:=by simpa using q4
 have hc0:c[0]? = some (.map (some b)):=by
  have:=q6 0 (.map 1) c[0] rfl (by simp [hcs])
  generalize hy:c[0]=y at this;cases this with
  | map hφ=>
    rename_i b'
    have:b=b':=by rw [g1] at hφ;injection hφ
    subst this;simp [hcs,hy]
 have hbm:b0 < w.heap.size:=h2.lt b0 (by rw [q2];simp)
 have hcell:w.cell? ⟨b0,0,none⟩=some (.map (some b)):=by
  simp only [World.cell?,q3];simpa using hc0
 have hrow:∀(j:Nat) (e:MapEntry),eB[j]? = some e→∃p,es[j]? = some p∧e.key = .int .i64 (yY p)∧e.born < clock:=fun j e he=>by
  have hj:j < eB.size:=(Array.getElem?_eq_some_iff.1 he).1;have hj2:j < es.length:=by omega
  refine ⟨es[j],by simp [hj2],?_,(g5 j es[j] e (by simp [hj2]) he).2.2⟩
  have:=(g5 j es[j] e (by simp [hj2]) he).1
  rw [(hk es[j] (List.getElem_mem hj2)).1] at this;generalize e.key=x at this;cases this;rfl
 have hkeys:eB.toList.map (fun e=>e.key)=es.map fun p=>Value.int .i64 (yY p):=by
  apply List.ext_getElem?;intro j;rw [List.getElem?_map,List.getElem?_map,Array.getElem?_toList];cases he:eB[j]? with
  | none=>
    have:es[j]? = none:=by
     rw [List.getElem?_eq_none_iff];rw [Array.getElem?_eq_none_iff] at he;omega
    rw [this];rfl
  | some e=>
    obtain ⟨p,hp1,hp2,_⟩:=hrow j e he;rw [hp1];simp [hp2]
 have hnd:(es.map yY).Nodup:=hpm.nodup_iff.1 (hp.imp (fun h=>by omega))
 have hwf:∀p∈es,(Lit.int .i64 (yY p)).wf=true:=fun p hp=>by
  obtain ⟨_,q2,q3⟩:=hk p hp;have e1:IntKind.i64.min≤yY p:=Int.le_trans (by decide:IntKind.i64.min≤0) (by omega);have e2:yY p≤IntKind.i64.max:=Int.le_trans q3 (by decide);simp only [Lit.wf,e1,e2,decide_true,Bool.and_true]
 have hrd:∀x∈eB.toList,∃k:Int,x.key = .int .i64 k∧Go.WideElems.rd Tryz.prog 3 uo x=some (.int .i64 k,.nil):=fun x hx=>by
  obtain ⟨j,hj,he⟩:=List.mem_iff_getElem.1 hx;obtain ⟨p,hp1,hp2,_⟩:=hrow j x (by rw [←he];simp);refine ⟨yY p,hp2,?_⟩;unfold Go.WideElems.rd;rw [hp2,keyOf_int_mk aag (hwf p (List.mem_of_getElem? hp1))];rfl
 have hfit:Go.WideElems.Fit Tryz.prog 3 uo eB clock:={
  size:=by have:(1000:Nat)≤maxLen:=by decide
           omega
  stamped:=⟨fun x hx=>by
   obtain ⟨j,hj,he⟩:=List.mem_iff_getElem.1 hx;obtain ⟨p,_,_,hp3⟩:=hrow j x (by rw [←he];simp)
   exact hp3,gn,by
    show (eB.toList.map (fun e=>e.key)).Nodup
    rw [hkeys]
    have:(es.map fun p=>Value.int .i64 (yY p))=(es.map yY).map (Value.int .i64):=by simp
    rw [this];exact hnd.map _ (fun a b hne e=>hne (by injection e))⟩
  reads:=fun x hx=>by obtain ⟨k,_,h⟩:=hrd x hx;exact ⟨_,h⟩ }
 have hown:w.ownsMap Tryz.prog 3 uo b eB.size (.map ((eB.toList.map (Go.WideElems.rg Tryz.prog 3 uo)).foldr DataW.insert [])):=
  ⟨eB,clock,g3,hfit,Nat.le_refl _,rfl⟩
 have hperm:=Go.WideShapes.sorted_perm (eB.toList.map (Go.WideElems.rg Tryz.prog 3 uo))
 have hik:(intKeys (DataW.map ((eB.toList.map (Go.WideElems.rg Tryz.prog 3 uo)).foldr DataW.insert []))).Perm (es.map yY):=by
  refine (hperm.map (fun p=>Go.intOf p.1)).trans ?_;rw [List.map_map]
  have:(eB.toList.map ((fun p:Lit×DataW Unit=>Go.intOf p.1)∘Go.WideElems.rg Tryz.prog 3 uo))=es.map yY:=by
   apply List.ext_getElem?;intro j;rw [List.getElem?_map,List.getElem?_map,Array.getElem?_toList];cases he:eB[j]? with
   | none=>
     have:es[j]? = none:=by
      rw [List.getElem?_eq_none_iff];rw [Array.getElem?_eq_none_iff] at he;omega
     rw [this];rfl
   | some e=>
     obtain ⟨p,hp1,hp2,_⟩:=hrow j e he;rw [hp1];obtain ⟨k,hk1,hk2⟩:=hrd e (by have:=Array.getElem?_eq_some_iff.1 he;obtain ⟨hj,e1⟩:=this;rw [←e1];simp);rw [hp2] at hk1;injection hk1 with _ hk1;simp [Go.WideElems.rg,hk2,Go.intOf,hk1]
  rw [this]
 have hsize:Maps.size (DataW.map ((eB.toList.map (Go.WideElems.rg Tryz.prog 3 uo)).foldr DataW.insert []))≤1000:=by
  show List.length _≤1000
  rw [hperm.length_eq,List.length_map,Array.length_toList];omega
 refine (Di b0 b eB.size _ uo w hbm hcell hown (Nat.le_trans hsize (by decide)) (by omega)).mono ?_
 rintro e w' ⟨v,ss,rfl,hss,hrw,_,hB⟩
 have hsort:ss.mergeSort (fun x y=>decide (x≤y))=wz (es.map yY):=by
  have e1:=mergeSort_of_perm_i (hss.trans hik)
  have e2:(es.map yY).mergeSort leI=wz (es.map yY):=by
   rw [←mergeSort_of_perm_i hpm];apply List.mergeSort_of_pairwise;exact hp.imp (fun h=>by simp [leI];omega)
  exact e1.trans e2
 have hlen:ss.length=(lT es).length:=by
  rw [(hss.trans hik).length_eq];simp [hpm.length_eq]
 rw [hsort] at hrw
 obtain ⟨d1,d2,d3⟩:=Go.Am.newRow (κ:=κ) (els:=lT es) hrw hlen (fun x hx=>by
  obtain ⟨p,_,rfl⟩:=List.mem_map.1 hx;exact ⟨rfl,fun y hy=>by simp [DV.cells] at hy;subst hy;rfl⟩) (fun i x j y u hx hy hu=>by
  simp only [lT,List.getElem?_map,Option.map_eq_some_iff] at hx;obtain ⟨p,hp1,rfl⟩:=hx;cases j with
  | succ j=>simp [DV.cells] at hy
  | zero=>
    simp [DV.cells] at hy;subst hy;simp [hp1] at hu;subst hu
    rfl) h2.lt hB.size
 have hM:dS κ φ (aV [av.box T [RV.map 1],.map es]) w.heap (mP κ v) φ (aV [av.box T [RV.map 1],.map es]) w'.heap:={
  dN:=fun b hb=>⟨(d2 b (h2.lt b (by rw [hb];simp))).trans hb,hB.block b (h2.lt b (by rw [hb];simp))⟩
  wQ:=fun b c ty fz hc=>by
   have hl:b < w.heap.size:=by
    rcases Nat.lt_or_ge b w.heap.size with h' | h'
    ·exact h'
    ·rw [Array.getElem?_eq_none h'] at hc;simp at hc
   exact ⟨c,fz,(hB.block b hl).trans hc,rfl⟩
  phi:=fun _ _=>rfl
  len:=fun _ _ _ h=>h }
 refine ⟨v,_,_,mP κ v,φ,rfl,⟨rfl,rfl⟩,.d d1,fun i=>?_,h2.step ⟨hB.size,hM.dN,fun b hl hb=>⟨(d2 b hl).trans hb,hB.block b hl⟩,hM.wQ,hB.os,hB.output⟩ d3,Nat.le_refl _,⟨hB.size,hM.dN,fun b hl hb=>⟨(d2 b hl).trans hb,hB.block b hl⟩,hM.wQ,hB.os,hB.output⟩,Kp.refl _ _⟩;exact (h1 i).mono hM (fun b hb=>⟨(d2 b (h2.lt b (by rw [hb];simp))).trans hb,hB.block b (h2.lt b (by rw [hb];simp))⟩) rfl
def Nu:kK:=fun a o=>match a,o with
 | [.gI (.func f) [] [.ptr 0 0]],[.box T [.map 1],.map es]=>
   bif Nat.beq f 535&&Nat.ble es.length 1000&&es.all isKey&&VU (wz (es.map yY)) (-1) then some (.d (.aC 1 (lT es) false),[.box T [.map 1],.map es],[]) else none
 | _,_=>none
theorem Nv:cK Tryz.prog 155 Nu:=by
 intro a o r o' c hg _;unfold Nu at hg;split at hg
 ·rename_i f T es;cases hb:(Nat.beq f 535&&Nat.ble es.length 1000&&es.all isKey&&VU (wz (es.map yY)) (-1)) with
  | false=>rw [hb] at hg;cases hg
  | true=>
    rw [hb] at hg;simp only [cond_true,Option.some.injEq,Prod.mk.injEq] at hg;obtain ⟨rfl,rfl,rfl⟩:=hg;simp only [Bool.and_eq_true] at hb
    have:=cB hb.1.1.1;subst this
    exact Nt es T (Nat.le_of_ble_eq_true hb.1.1.2) hb.1.2 hb.2
 ·cases hg
end Go.Proofs.YtjoefbioobdinaaGreatDoor
namespace Go.Proofs.YtjoefbioobdinaaGreatDoor
open Go.RowKit Am
noncomputable def tbB:List (Nat×kK):=[(531,RJ),
 (130,e2 OX),
 (292,e2 RN),
 (304,e2 RO),
 (144,yS),
 (90,Gs),
 (433,JN),
 (219,Nr),
 (221,JN),
 (155,Nu)]
theorem Tm:eD Tryz.prog tbB:=.cons OW (.cons Ig (.cons OY (.cons OZ (.cons yT (.cons Db (.cons Qg (.cons Ns (.cons Np (.cons Nv .nil)))))))))
noncomputable def aQ:uD:=Ei tbB
theorem Nw:aZ Tryz.prog (aO aQ []):=yw Tm
end Go.Proofs.YtjoefbioobdinaaGreatDoor
namespace Go.Am
set_option linter.unusedSectionVars false
variable {P:Program} [Gl]
def Vv:Result Next→Bool
 | .ok (.value _) _=>true
 | _=>false
def vOf:Result Next→Value
 | .ok (.value v) _=>v
 | _=>undef
def wOf (d:World):Result Next→World
 | .ok (.value _) w=>w
 | _=>d
theorem dx {ops:Array Oper} {Q:Exit→Act→World→Prop} {i:Nat} {rest:List Nat} {o:Oper} {a:Act} {w:World} (hi:ops[i]? = some o) (hg:o.guard.isNone=true) (hr:Vv ((execOp a.eval o).run P w)=true)
 (h:wpOps P ops Q rest (a.put o.dst (vOf ((execOp a.eval o).run P w))) (wOf w ((execOp a.eval o).run P w))):wpOps P ops Q (i::rest) a w:=by
 rw [wpOps_cons];unfold wpOp;rw [hi];have hg:o.guard=none:=by simpa using hg
 simp only [Region.wanted,hg,if_true];left;cases hx:(execOp a.eval o).run P w with
 | halt e w'=>rw [hx] at hr;cases hr
 | ok n w'=>
   rw [hx] at hr h;cases n<;>first | (cases hr;done) | exact eX hx h
theorem jJ {ops:Array Oper} {Q:Exit→Act→World→Prop} {i:Nat} {rest:List Nat} {o:Oper} {a:Act} {w:World} {t g z:Nat} {x:Operand} {c:Array Value} {ty:TypeId} (hi:ops[i]? = some o) (hg:o.guard.isNone=true)
 (hop:o.op = .store t (.global g) x) (hz:(Env.of P).size t=some z) (hev:a.eval (.global g) = .pointer (some ⟨g,0,none⟩)) (hb:w.heap[g]? = some (.cells c ty (0,0)))
 (hc:(Nat.beq (a.eval x).cells.size z&&Nat.ble z c.size&&(a.eval x).cells.toList.all Value.oneCell)=true)
 (h:wpOps P ops Q rest (a.put o.dst undef) (World.row w g (.cells (eP c 0 (a.eval x).cells.toList) ty (0,0)))):wpOps P ops Q (i::rest) a w:=by
 rw [wpOps_cons];unfold wpOp;rw [hi];have hg:o.guard=none:=by simpa using hg
 simp only [Region.wanted,hg,if_true];left;simp only [Bool.and_eq_true] at hc;have h1:=cB hc.1.1;have h2:=Nat.le_of_ble_eq_true hc.1.2;have hrun:=kC (P:=P) (t:=t) (z:=z) (b:=g) (o:=0) (v:=a.eval x) hz hb (fun o _ h=>by omega) h1 (by omega) (fun y hy=>List.all_eq_true.1 hc.2 y (by simpa using hy));refine sZ (w':=World.row w g (.cells (eP c 0 (a.eval x).cells.toList) ty (0,0))) ?_ h;simp only [execOp,hop,hev,Sem.run_bind,hrun,Result.andThen_ok,Sem.run_pure]
theorem y5 {ops:Array Oper} {Q:Exit→Act→World→Prop} {i:Nat} {rest:List Nat} {o:Oper} {a:Act} {w w' : World} {f:FuncId} {args:Array Value} {v:Value} (hi:ops[i]? = some o) (hg:o.guard.isNone=true)
 (hr:(execOp a.eval o).run P w = .ok (.enter f args) w) (hC:Calls P f args w fun e w2=>e = .returned v∧w2=w') (h:wpOps P ops Q rest (a.put o.dst v) w'):wpOps P ops Q (i::rest) a w:=by
 rw [wpOps_cons];unfold wpOp;rw [hi];have hg:o.guard=none:=by simpa using hg
 simp only [Region.wanted,hg,if_true];left;unfold Oper.wp;rw [hr,Oper.upon_enter];refine hC.mono ?_
 rintro e w2 ⟨rfl,rfl⟩
 exact h
theorem iM {id:Nat} {ops:Array Oper} {y:Code} {Q:Exit→Act→World→Prop} {a:Act} {w:World} (h:wpOps P ops (fun e a2 w2=>e = .normal∧Code.wp P y Q a2 w2) (List.range ops.size) a w) :
 Code.wp P (.seq (.region id ops false) y) Q a w:=by
 intro b k cs;obtain ⟨e,a2,w2,⟨rfl,hy⟩,harr⟩:=wp_region (id:=id) h b (.code y::k) cs;obtain ⟨e,a3,w3,hq,Yx⟩:=hy b k cs;exact ⟨e,a3,w3,hq,Arrives.of_steps (Steps.trans (Steps.one step_seq) harr) Yx⟩
end Go.Am
namespace Go.Am
set_option linter.unusedSectionVars false
open Go.ChangeShapes Go.WideShapes Go.ChangeAt Go.WideMaps Go.WideElems Go.RowKit
variable {P:Program} [Gl] {H:Type} {enc:TypeId×Value→H}
theorem zI {W:World} {x:String×DataW Unit} {l:List (String×DataW Unit)} {ps:List MemPlace} (h:DataW.LaidVars P W (x::l) ps):∃q,DataW.LaidVars P W l q:=by
 obtain ⟨_,_,_,_,_,q,_,_,_,_,h,_⟩:=h;exact ⟨q,h⟩
theorem jc {W:World}:∀(n:Nat) {l:List (String×DataW Unit)} {ps:List MemPlace},DataW.LaidVars P W l ps→∃q,DataW.LaidVars P W (l.drop n) q
 | 0,_,ps,h=>⟨ps,h⟩
 | _+1,[],ps,h=>⟨ps,h⟩
 | n+1,_::_,_,h=>by
   obtain ⟨q,h⟩:=zI h;exact jc n h
theorem uq {W:World} {name:String} {k:IntKind} {zs:List Int} {rest:List (String×DataW Unit)} {g:Nat} {t e:TypeId} {n:Nat} {ps:List MemPlace}
 (hg:P.globalNamed name=some g) (hty:(P.globals[g]?).map (·.type)=some t) (ht:P.underlying t=some (.array n e)) (he:P.underlying e=some (.int k)) (hce:P.cellsOf e=1) (hct:P.cellsOf t=n)
 (h:DataW.LaidVars P W ((name,Lib.tabData k zs)::rest) ps):∃ty fz,W.heap[g]? = some (.cells (zs.map fun z=>Value.int k z).toArray ty fz):=by
 obtain ⟨g',t',cs,fuel,p,q,hg',ht',hvar,hd,_,_⟩:=h;obtain rfl:=Option.some.inj (hg.symm.trans hg');obtain rfl:=Option.some.inj (hty.symm.trans ht');have hcs:=Lib.cells_of_tab ht he hce hct hd;unfold World.var? at hvar;rw [hg] at hvar;simp only [Option.bind_some] at hvar;split at hvar
 ·rename_i c ty fz hh;injection hvar with hvar;subst hvar;exact ⟨ty,fz,by rw [hh,←hcs]⟩
 ·cases hvar
def y7:List Nat→Nat→Bool
 | [],_=>true
 | k::r,m=>bif Nat.beq (Nat.mod (Nat.shiftRight m k) 2) 1 then false else y7 r (Nat.lor m (Nat.shiftLeft 1 k))
theorem IL (m k:Nat):Nat.beq (Nat.mod (Nat.shiftRight m k) 2) 1=m.testBit k:=by
 have:m.testBit k=decide ((m >>> k) % 2=1):=by
  simp only [Nat.testBit,Nat.shiftRight_eq_div_pow,Nat.and_comm 1,Nat.and_one_is_mod];rcases Nat.mod_two_eq_zero_or_one (m / 2 ^ k) with h | h<;>rw [h]<;>rfl
 rw [this]
 show Nat.beq ((m >>> k) % 2) 1=_
 by_cases h:(m >>> k) % 2=1
 ·rw [h];rfl
 ·rw [zJ h];simp [h]
theorem Yy (j:Nat) (h:j≠0):Nat.testBit 1 j=false:=by
 have h2:2≤2 ^ j:=Nat.pow_le_pow_right (n:=2) (i:=1) (by omega) (by omega);have h3:1 / 2 ^ j=0:=Nat.div_eq_of_lt (by omega);simp [Nat.testBit,Nat.shiftRight_eq_div_pow,h3]
theorem wC:∀(l:List Nat) (m:Nat),y7 l m=true→l.Nodup∧∀k∈l,m.testBit k=false
 | [],m,_=>⟨List.nodup_nil,by simp⟩
 | k::r,m,h=>by
   simp only [y7,IL] at h;cases hb:m.testBit k with
   | true=>rw [hb] at h;cases h
   | false=>
     rw [hb] at h;simp only [cond_false] at h;obtain ⟨h1,h2⟩:=wC r _ h
     have hbit:∀j,(Nat.lor m (Nat.shiftLeft 1 k)).testBit j=(m.testBit j||decide (k=j)):=fun j=>by
      show (m ||| 1 <<< k).testBit j=_
      rw [Nat.testBit_or,Nat.testBit_shiftLeft];congr 1;by_cases hkj:k≤j
      ·by_cases e:k=j
       ·subst e;simp
       ·have:j-k≠0:=by omega
        have h1:Nat.testBit 1 (j-k)=false:=by
         exact Yy _ this
        rw [h1];simp [e]
      ·have:k≠j:=by omega
       simp [this,hkj]
     refine ⟨List.nodup_cons.2 ⟨fun hk=>?_,h1⟩,fun j hj=>?_⟩
     ·have:=h2 k hk
      rw [hbit] at this;simp at this
     ·rcases List.mem_cons.1 hj with rfl | hj
      ·exact hb
      ·have:=h2 j hj
       rw [hbit] at this;simp only [Bool.or_eq_false_iff] at this;exact this.1
def Vw:MemPlace→Nat
 | .cell b off=>b*1024+off
 | .map b=>b*1024
theorem ET {P:Program} {w:World} {l:List (String×DataW Unit)} (fuel:Nat) (h1:(DataW.laidRun P w fuel (l.map (·.1))).map (·.1)=some l)
 (h2:(DataW.laidRun P w fuel (l.map (·.1))).map (fun x=>y7 (x.2.map Vw) 0)=some true) (h3:(DataW.laidRun P w fuel (l.map (·.1))).map (fun x=>laidRowsB P w x.2)=some true):laidMet P l w:=by
 refine laidMet_of_run' fuel h1 ?_;cases hx:DataW.laidRun P w fuel (l.map (·.1)) with
 | none=>rw [hx] at h1;cases h1
 | some x=>
   rw [hx] at h2 h3;simp only [Option.map_some,Option.some.injEq] at h2 h3 ⊢;have hn:x.2.Nodup:=List.Pairwise.of_map Vw (fun a b h e=>h (by rw [e])) (wC _ _ h2).1;rw [h3,decide_eq_true hn];rfl
end Go.Am
namespace Go.Am
set_option linter.unusedSectionVars false
variable {P:Program} [Gl]
noncomputable def GR (n:Nat) (k:Nat→List Nat):List Nat:=Nat.rec (motive:=fun _=>List Nat) (k 0) (fun m _=>k (Nat.succ m)) n
theorem JR (n:Nat) (k:Nat→List Nat):GR n k=k n:=by cases n<;>rfl
noncomputable def vI (P:Program) (n:Nat):List Nat→List Nat→Nat→List Nat:=
 Nat.rec (motive:=fun _=>List Nat→List Nat→Nat→List Nat) (fun _ seen _=>seen.reverse)
  (fun _ ih todo seen m=>List.rec (motive:=fun _=>List Nat) seen.reverse (fun f todo _=>Bool.rec (motive:=fun _=>List Nat)
    (GR (Nat.lor m (Nat.shiftLeft 1 f)) (ih ((P.funcs[f]?).elim [] P.leadsTo++todo) (f::seen))) (ih todo seen m) (Nj m f)) todo) n
theorem NJ (m k:Nat):Nj m k=m.testBit k:=IL m k
theorem Qm (m k j:Nat):(Nat.lor m (Nat.shiftLeft 1 k)).testBit j=(m.testBit j||decide (k=j)):=by
 show (m ||| 1 <<< k).testBit j=_
 rw [Nat.testBit_or,Nat.testBit_shiftLeft];congr 1;by_cases hkj:k≤j
 ·by_cases e:k=j
  ·subst e;simp
  ·have:j-k≠0:=by omega
   rw [Yy _ this];simp [e]
 ·have:k≠j:=by omega
  simp [this,hkj]
theorem vJ:∀(n:Nat) (todo seen:List Nat) (m:Nat),(∀k,m.testBit k=seen.contains k)→vI P n todo seen m=P.closureVia n todo seen
 | 0,todo,seen,m,_=>by
   show seen.reverse=_
   simp [Program.closureVia]
 | n+1,[],seen,m,_=>by
   show seen.reverse=_
   simp [Program.closureVia]
 | n+1,f::todo,seen,m,h=>by
   have e:vI P (n+1) (f::todo) seen m=Bool.rec (motive:=fun _=>List Nat)
    (GR (Nat.lor m (Nat.shiftLeft 1 f)) (vI P n ((P.funcs[f]?).elim [] P.leadsTo++todo) (f::seen))) (vI P n todo seen m) (Nj m f):=rfl
   rw [e,NJ,h f];simp only [Program.closureVia];cases hc:seen.contains f with
   | true=>exact vJ n todo seen m h
   | false=>
     simp only [Bool.false_eq_true,if_false,JR];refine vJ n _ _ _ (fun k=>?_);rw [Qm,h k];simp only [List.contains_cons];by_cases e:k=f
     ·subst e;simp
     ·have:¬f=k:=fun h=>e h.symm
      simp [this,e]
theorem GU {f n:Nat} {L:List Nat} (hn:1+(P.funcs.toList.map fun g=>(P.leadsTo g).length+1).sum=n) (h:vI P n [f] [] 0=L):P.closure f=L:=by
 unfold Program.closure;rw [hn,←h];exact (vJ n [f] [] 0 (fun k=>by simp)).symm
end Go.Am
