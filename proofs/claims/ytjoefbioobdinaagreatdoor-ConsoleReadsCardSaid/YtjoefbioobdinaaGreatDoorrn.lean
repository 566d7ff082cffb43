/-
  Texts that the claim leans on: N4, Sort, N10, N8, ConBack, ConFit, AmTw, AmLw, AmCl.
-/
import Derived.Test.YtjoefbioobdinaaGreatDoorProg
import Derived.Test.YtjoefbioobdinaaGreatDoorrh
import Derived.Test.YtjoefbioobdinaaGreatDoorri
import Derived.Test.YtjoefbioobdinaaGreatDoorrm
import Derived.Lib.MakeNoZero
import Derived.Shelf.SlGeneric
import Derived.Shelf.SlIterI.Nil
import Derived.Shelf.SortM.Plain
import Derived.Shelf.SortM.SortNone
import Derived.Ground.GgzProg
import Derived.Ground.SlgmProg
import Derived.Maps.Keyed
import Derived.Maps.Range
import Derived.Lib.LaidTab
import Derived.LaidLaws
namespace Go.Proofs.YtjoefbioobdinaaGreatDoor
open Go.RowKit Am
set_option maxRecDepth 1000000
theorem Ia (w:World) {b:Nat} {T:TypeId} {x v:Value} {o:Obj} (hb:w.heap[b]? = some (.cells #[x,.slice none 0 0] T (0,0))) :
 ((w.setCell ⟨b,1,none⟩ v).alloc o).heap=(World.row (w.alloc o) b (.cells #[x,v] T (0,0))).heap:=by
 have hlt:=(Array.getElem?_eq_some_iff.1 hb).1;rw [mg hb];simp only [World.row,World.alloc];apply Array.ext';simp only [Array.toList_push,Array.toList_setIfInBounds];rw [List.set_append_left _ _ (by simpa using hlt)];rfl
theorem Kq {κ:bB} {φ:bJ} {w w' : World} {s:bQ} {a:Act} (F:aC κ φ w s a) (h:w'.heap=w.heap):aC κ φ w' s a:=
 ⟨fun t=>by rw [h];exact F.regs t,fun i=>by rw [h];exact F.objs i,⟨fun b hb=>by rw [h];exact F.bnd.lt b hb,fun p hp=>by rw [h];exact F.bnd.gl p hp⟩,F.n,by rw [h];exact F.df⟩
set_option maxHeartbeats 2000000 in
theorem Ob {T:Nat} (b n:Nat) (w:World) (hbk:w.heap[b]? = some (.cells #[.pointer (some ⟨b,0,none⟩),.slice none 0 0] T (0,0))) (hn:n≤281474976710656) (Q:World→Prop)
 (hQ:∀(cs:Array Value) (w' : World),n≤cs.size→w'.heap=((w.setCell ⟨b,1,none⟩ (.slice (some ⟨w.heap.size,0,none⟩) 0 cs.size)).alloc (.cells cs 5)).heap→w'.os=w.os→w'.output=w.output→Q w') :
 Calls Tryz.prog 219 #[.pointer (some ⟨b,0,none⟩),.int .i64 n] w fun e w'=>e = .returned (.tuple #[])∧Q w':=by
 obtain ⟨cs,hrun,hle,hmax⟩:=Lib.run_makeNoZero (P:=Tryz.prog) w.drew #[3] 130 5 Tryz.underlying130 n hn
 have hw:IntKind.i64.wrap (IntKind.i64.wrap 0+(n:Int))=n:=by
  rw [IntKind.wrap_i64,IntKind.wrap_i64];omega
 have hcall:(callFunc 315 #[.int .i64 (IntKind.i64.wrap (IntKind.i64.wrap 0+(n:Int)))]).run Tryz.prog w.drew = .ok (.value (.slice (some ⟨w.drew.heap.size,0,none⟩) n cs.size)) (w.drew.drew.drew.alloc (.cells cs 5)):=by
  rw [hw,run_callFunc_extern Tryz.func315 (by kernel_rfl) (by kernel_rfl) (by kernel_rfl) (e:=Extern.BytealgMakeNoZero.makeNoZero #[3] #[130]) (by kernel_rfl),hrun];rfl
 have c1:w.drew.cell? ⟨b,1,none⟩=some (.slice none 0 0):=by
  have:w.drew.heap[b]? = _:=hbk
  rw [Lib.cell_of_heap this];rfl
 have hlt:b < w.heap.size:=(Array.getElem?_eq_some_iff.1 hbk).1
 have c2:(w.alloc (.cells cs 5)).cell? ⟨b,1,none⟩=some (.slice none 0 0):=by
  have:(w.alloc (.cells cs 5)).heap[b]? = _:=(Lib.alloc_old w _ b hlt).trans hbk
  rw [Lib.cell_of_heap this];rfl
 have f2:(w.alloc (.cells cs 5)).frozen? ⟨b,1,none⟩=false:=Lib.frozen_of_heap ((Lib.alloc_old w _ b hlt).trans hbk) 1
 have hcopy:∀W:World,(Builtin.copy_ #[130,130] 3 #[.slice (some ⟨w.heap.size,0,none⟩) 0 cs.size,.slice none 0 0]).run Tryz.prog W = .ok (goInt 0) W:=
  fun W=>run_copy_none W 130 130 3 5 _ _ 0 cs.size 0 0 Tryz.underlying130 (by kernel_rfl) rfl
 have HQ:=Lib.hid (fun w' h1 h2 h3=>hQ cs w' hle h1 h2 h3);clear hw hQ
 go_enter Tryz.func219,Tryz.ntmps219
 go_wp2
 go_region
 all_goals (go_wp2;go_end0;exact ⟨rfl,HQ.out _ rfl rfl rfl⟩)
theorem arg2 {κ:bB} {φ:bJ} {O:Tab} {h:Heap} {vs:Array Value} {x y:RV} (h3:vs.size=[x,y].length) (h4:∀(i:Nat) (z:RV) (v:Value),[x,y][i]? = some z→vs[i]? = some v→bE κ φ O h z v) :
 ∃v u,vs = #[v,u]∧bE κ φ O h x v∧bE κ φ O h y u:=by
 have hs:vs.size=2:=by simpa using h3
 refine ⟨vs[0],vs[1],?_,h4 0 x _ rfl (by simp [hs]),h4 1 y _ rfl (by simp [hs])⟩;apply Array.ext
 ·simpa using hs
 ·intro i hi hi2;simp at hi2
  match i,hi2 with
  | 0,_=>rfl
  | 1,_=>rfl
theorem Uj {T:Nat} (n:Nat) (hn:n≤281474976710656):C Tryz.prog 219 [.ptr 0 0,.d (.int .i64 n)] [.box T [.ptr 0 0,.d (.aF 0 [] true)]]
 (fun v o=>v = .d (.aZ [])∧o=[.box T [.ptr 0 0,.sl 1 1 0 0 none],.bO 5 []]):=by
 intro κ φ w vs h1 h2 h3 h4;obtain ⟨v0,v1,rfl,r0,r1⟩:=arg2 h3 h4;cases r0 with
 | ptr hφ=>
 cases r1 with
 | d hd=>
 cases hd;rename_i b;have ho:=h1 0;have et:aR [ay.box T [.ptr 0 0,.d (.aF 0 [] true)]] 0=some (.box T [.ptr 0 0,.d (.aF 0 [] true)]):=rfl;rw [et] at ho;obtain ⟨b',c,g1,g2,g3,g4,g5,g6⟩:=ho;rw [g1] at hφ;injection hφ with hφ;subst hφ
 obtain ⟨c0,c1,rfl⟩:=jF (by simpa using g4);have q0:=g6 0 (.ptr 0 0) c0 rfl rfl;have q1:=g6 1 (.d (.aF 0 [] true)) c1 rfl rfl
 have hc1:c1 = .slice none 0 0:=by
  cases q1 with
  | d hr=>
  cases hr with
  | iX hf=>have:=hf rfl;rw [this.1,this.2 rfl]
  | aF _ _ hf _ _ _ _=>have:=(hf rfl).2;omega
 subst hc1
 have hc0:c0 = .pointer (some ⟨b',0,none⟩):=by
  cases q0 with
  | ptr hp=>rw [g1] at hp;injection hp with hp;subst hp;rfl
 subst hc0;have F:=kD h1 h2
 refine (Ob b' n w g3 hn (fun w'=>∃κ' φ',(∀i,OR κ' φ' (aR [.box T [.ptr 0 0,.sl 1 1 0 0 none],.bO 5 []]) w'.heap i (aR [ay.box T [.ptr 0 0,.sl 1 1 0 0 none],.bO 5 []] i))∧
  BJ κ' w'∧Fr κ w κ' w'∧Kp φ (aR [ay.box T [.ptr 0 0,.d (.aF 0 [] true)]]) φ' (aR [ay.box T [.ptr 0 0,.sl 1 1 0 0 none],.bO 5 []])) (fun cs w' hle hh hos hout=>?_)).mono (fun e w' ⟨he,κ',φ',k1,k2,k3,k4⟩=>
   ⟨_,_,_,κ',φ',he,⟨rfl,rfl⟩,.d (.aZ rfl (by simp)),k1,k2,by simp,k3,k4⟩)
 obtain ⟨p1,p2,p3⟩:=F.alloc (i:=1) (p:=.bO 5 []) (o:=.cells cs 5) (w':=w.alloc (.cells cs 5)) rfl (by simp [aR])
  (fun M=>⟨_,cs,(0,0),aP _ _ _,bW _ _ _,aS _ _,Ea _ _,by simp,fun j x v hx hv=>by simp at hx⟩)
 have hne:(0:Nat)≠1:=by decide
 have hlt:b' < w.heap.size:=(Array.getElem?_eq_some_iff.1 g3).1;have g3' : (w.alloc (.cells cs 5)).heap[b']? = some (.cells #[.pointer (some ⟨b',0,none⟩),.slice none 0 0] T (0,0)):=(Lib.alloc_old w _ b' hlt).trans g3;have hκ:qO κ w.heap.size (.own 1) b' = .own 0:=by rw [fV _ _ (by omega)];exact g2
 have hφ' : iE φ 1 (.at w.heap.size) 0 = .at b':=by rw [mh _ _ hne];exact g1
 obtain ⟨t1,t2,t3⟩:=p1.write (i:=0) (p:=.box T [.ptr 0 0,.sl 1 1 0 0 none]) (o:=.cells #[.pointer (some ⟨b',0,none⟩),.slice (some ⟨w.heap.size,0,none⟩) 0 cs.size] T (0,0)) hκ hφ'
  (fun c ty fz hh=>by rw [g3'] at hh;injection hh with hh;injection hh with a1 a2 a3;subst a1;subst a2;exact ⟨_,_,rfl,rfl⟩) (fun n hn=>by simp [ay.dn] at hn)
  (fun M=>⟨b',_,hφ',hκ,dO g3',rfl,fun v hv=>by
    simp at hv;rcases hv with rfl | rfl<;>rfl,fun j x v hx hv=>by
    match j,hx,hv with
    | 0,hx,hv=>simp at hx hv;subst hx;subst hv;exact .ptr hφ'
    | 1,hx,hv=>
      simp at hx hv;subst hx;subst hv;refine .sl (aP _ _ _) (c:=cs) (ty:=5) (fz:=(0,0)) ?_ (.inl rfl) (by omega) (Nat.zero_le _) (fun k e=>by cases e) (fun _ m hm=>?_)
      ·rw [iD _ _ (by omega)];exact aS _ _
      ·simp [bA,ay.dn] at hm;omega
    | j+2,hx,hv=>simp at hx⟩)
 have Ke:bA (bA (aR [ay.box T [.ptr 0 0,.d (.aF 0 [] true)]]) 1 (some (.bO 5 []))) 0 (some (.box T [.ptr 0 0,.sl 1 1 0 0 none]))=aR [.box T [.ptr 0 0,.sl 1 1 0 0 none],.bO 5 []]:=by
  funext i
  match i with
  | 0=>simp [bA,aR]
  | 1=>simp [bA,aR]
  | i+2=>simp [bA,aR]
 simp only [Ke] at t1 t2;have hheap:w'.heap=(World.row (w.alloc (.cells cs 5)) b' (.cells #[.pointer (some ⟨b',0,none⟩),.slice (some ⟨w.heap.size,0,none⟩) 0 cs.size] T (0,0))).heap:=hh.trans (Ia w g3);have t1':=Kq t1 hheap;have hfr:=p3.trans t3;have aaO : Fr κ w (qO κ w.heap.size (.own 1)) w':=⟨by rw [hheap];exact hfr.size,fun b hb=>by rw [hheap];exact hfr.dS b hb,fun b hb ho=>by rw [hheap];exact hfr.kW b hb ho,fun b c ty fz hc=>by rw [hheap];exact hfr.w9 b c ty fz hc,hos,hout⟩
 exact ⟨_,_,t1'.objs,t1'.bnd,aaO,⟨fun i hi=>by rw [t2.kp.phi i (by rw [p2.kp.phi i hi];exact hi),p2.kp.phi i hi],fun i m hi hm=>p2.kp.len i m hi (by
  have:=t2.kp.len i m (by rw [p2.kp.phi i hi];exact hi) hm
  exact this)⟩⟩
def Oc:kZ:=fun a o=>match a,o with
 | [.ptr 0 0,.d (.int .i64 n)],[.box T [.ptr 0 0,.d (.aF 0 [] true)]]=>some (.d (.aZ []),[.box T [.ptr 0 0,.sl 1 1 0 0 none],.bO 5 []],[decide (0≤n),decide (n≤281474976710656)])
 | _,_=>none
theorem Od:bY Tryz.prog 219 Oc:=by
 intro a o r o' c hg hc;unfold Oc at hg;split at hg
 ·rename_i n T;simp only [Option.some.injEq,Prod.mk.injEq] at hg;obtain ⟨rfl,rfl,rfl⟩:=hg;have h0:0≤n:=by simpa using hc (decide (0≤n)) (by simp)
  have h1:n≤281474976710656:=by simpa using hc (decide (n≤281474976710656)) (by simp)
  have:=Uj (T:=T) n.toNat (by omega)
  rw [Int.toNat_of_nonneg h0] at this;exact this
 ·cases hg
end Go.Proofs.YtjoefbioobdinaaGreatDoor
namespace Go.Proofs
open Go.Shelf
def Tryz.keysA_ren:Go.Shelf.Ren:=⟨fun | 7=>431 | 10=>535 | n=>n,fun | 23=>413 | 26=>3 | 3=>9 | 28=>250 | 0=>0 | 27=>249 | 33=>155 | 4=>4 | n=>n,fun | n=>n⟩
theorem Tryz.keysA:Go.Proofs.SlLaysZI.n7 Tryz.prog Tryz.keysA_ren:={
 mixed:=by kernel_rfl
 f7:=⟨Tryz.f431.name,by decide,Tryz.func431.trans (congrArg some (by kernel_rfl))⟩
 f10:=⟨Tryz.f535.name,by decide,Tryz.func535.trans (congrArg some (by kernel_rfl))⟩
 t0:=Tryz.underlying0
 a0:=Tryz.isAgg0
 z0:=Tryz.sizeOf0
 v0:=Tryz.zeroValue0
 t4:=Tryz.underlying4
 a4:=Tryz.isAgg4
 z4:=Tryz.sizeOf4
 v4:=Tryz.zeroValue4
 t23:=Tryz.underlying413
 a23:=Tryz.isAgg413
 z23:=Tryz.sizeOf413
 v23:=Tryz.zeroValue413
 t26:=Tryz.underlying3
 a26:=Tryz.isAgg3
 z26:=Tryz.sizeOf3
 v26:=Tryz.zeroValue3
 t27:=Tryz.underlying249
 a27:=Tryz.isAgg249
 z27:=Tryz.sizeOf249
 v27:=Tryz.zeroValue249
 t28:=Tryz.underlying250
 a28:=Tryz.isAgg250
 z28:=Tryz.sizeOf250
 v28:=Tryz.zeroValue250
 t33:=Tryz.underlying155
 a33:=Tryz.isAgg155
 z33:=Tryz.sizeOf155
 v33:=Tryz.zeroValue155 }
def Tryz.sortedA_ren:Go.Shelf.Ren:=⟨fun | 6=>155 | 8=>222 | 9=>223 | 11=>316 | 13=>162 | 12=>317 | 23=>239 | 24=>215 | 14=>414 | 15=>415 | 16=>416 | 17=>417 | 18=>418 | 19=>419 | 20=>420 | 21=>421 | 22=>422 | 25=>525 | 26=>322 | 27=>323 | 28=>526 | 29=>527 | 30=>528 | 31=>607 | n=>n,fun | 26=>3 | 28=>250 | 24=>40 | 0=>0 | 3=>3 | 37=>204 | 48=>293 | 50=>97 | 4=>4 | 40=>335 | 39=>334 | 45=>340 | 5=>5 | 9=>9 | 51=>433 | 55=>436 | 57=>516 | 58=>53 | 33=>155 | n=>n,fun | n=>n⟩
theorem Tryz.sortedA:Go.Proofs.SlLaysZI.n6 Tryz.prog Tryz.sortedA_ren:={
 mixed:=by kernel_rfl
 f6:=⟨Tryz.f155.name,by decide,Tryz.func155.trans (congrArg some (by kernel_rfl))⟩
 f8:=⟨Tryz.f222.name,by decide,Tryz.func222.trans (congrArg some (by kernel_rfl))⟩
 f11:=⟨Tryz.f316.name,by decide,Tryz.func316.trans (congrArg some (by kernel_rfl))⟩
 t0:=Tryz.underlying0
 a0:=Tryz.isAgg0
 z0:=Tryz.sizeOf0
 v0:=Tryz.zeroValue0
 t24:=Tryz.underlying40
 a24:=Tryz.isAgg40
 z24:=Tryz.sizeOf40
 v24:=Tryz.zeroValue40
 t26:=Tryz.underlying3
 a26:=Tryz.isAgg3
 z26:=Tryz.sizeOf3
 v26:=Tryz.zeroValue3
 t28:=Tryz.underlying250
 a28:=Tryz.isAgg250
 z28:=Tryz.sizeOf250
 v28:=Tryz.zeroValue250
 i26:=by kernel_rfl }
def Tryz.sortA_ren:Go.Shelf.Ren:=⟨fun | 5=>223 | 8=>162 | 7=>317 | 19=>239 | 20=>215 | 10=>414 | 11=>415 | 12=>416 | 13=>417 | 14=>418 | 15=>419 | 16=>420 | 17=>421 | 18=>422 | 30=>525 | 31=>322 | 32=>323 | 33=>526 | 34=>527 | 35=>528 | 40=>607 | n=>n,fun | 23=>40 | 25=>3 | 3=>3 | 32=>204 | 22=>40 | 0=>0 | 44=>293 | 46=>97 | 4=>4 | 36=>335 | 35=>334 | 41=>340 | 5=>5 | 9=>9 | 53=>433 | 57=>436 | 63=>516 | 64=>53 | n=>n,fun | n=>n⟩
theorem Tryz.sortA:Go.Proofs.SlLaysM.n5 Tryz.prog Tryz.sortA_ren:={
 mixed:=by kernel_rfl
 f5:=⟨Tryz.f223.name,by decide,Tryz.func223.trans (congrArg some (by kernel_rfl))⟩
 f7:=⟨Tryz.f317.name,by decide,Tryz.func317.trans (congrArg some (by kernel_rfl))⟩
 f8:=Tryz.func162.trans (congrArg some (by kernel_rfl))
 f10:=⟨Tryz.f414.name,by decide,Tryz.func414.trans (congrArg some (by kernel_rfl))⟩
 f11:=⟨Tryz.f415.name,by decide,Tryz.func415.trans (congrArg some (by kernel_rfl))⟩
 f12:=⟨Tryz.f416.name,by decide,Tryz.func416.trans (congrArg some (by kernel_rfl))⟩
 f13:=⟨Tryz.f417.name,by decide,Tryz.func417.trans (congrArg some (by kernel_rfl))⟩
 f14:=⟨Tryz.f418.name,by decide,Tryz.func418.trans (congrArg some (by kernel_rfl))⟩
 f15:=⟨Tryz.f419.name,by decide,Tryz.func419.trans (congrArg some (by kernel_rfl))⟩
 f16:=⟨Tryz.f420.name,by decide,Tryz.func420.trans (congrArg some (by kernel_rfl))⟩
 f17:=⟨Tryz.f421.name,by decide,Tryz.func421.trans (congrArg some (by kernel_rfl))⟩
 f18:=⟨Tryz.f422.name,by decide,Tryz.func422.trans (congrArg some (by kernel_rfl))⟩
 f19:=Tryz.func239.trans (congrArg some (by kernel_rfl))
 f20:=Tryz.func215.trans (congrArg some (by kernel_rfl))
 f30:=⟨Tryz.f525.name,by decide,Tryz.func525.trans (congrArg some (by kernel_rfl))⟩
 f31:=Tryz.func322.trans (congrArg some (by kernel_rfl))
 f32:=Tryz.func323.trans (congrArg some (by kernel_rfl))
 f33:=⟨Tryz.f526.name,by decide,Tryz.func526.trans (congrArg some (by kernel_rfl))⟩
 f34:=⟨Tryz.f527.name,by decide,Tryz.func527.trans (congrArg some (by kernel_rfl))⟩
 f35:=⟨Tryz.f528.name,by decide,Tryz.func528.trans (congrArg some (by kernel_rfl))⟩
 f40:=⟨Tryz.f607.name,by decide,Tryz.func607.trans (congrArg some (by kernel_rfl))⟩
 t0:=Tryz.underlying0
 a0:=Tryz.isAgg0
 z0:=Tryz.sizeOf0
 v0:=Tryz.zeroValue0
 t3:=Tryz.underlying3
 a3:=Tryz.isAgg3
 z3:=Tryz.sizeOf3
 v3:=Tryz.zeroValue3
 t4:=Tryz.underlying4
 a4:=Tryz.isAgg4
 z4:=Tryz.sizeOf4
 v4:=Tryz.zeroValue4
 t5:=Tryz.underlying5
 a5:=Tryz.isAgg5
 z5:=Tryz.sizeOf5
 v5:=Tryz.zeroValue5
 t9:=Tryz.underlying9
 a9:=Tryz.isAgg9
 z9:=Tryz.sizeOf9
 v9:=Tryz.zeroValue9
 t22:=Tryz.underlying40
 a22:=Tryz.isAgg40
 z22:=Tryz.sizeOf40
 v22:=Tryz.zeroValue40
 t23:=Tryz.underlying40
 a23:=Tryz.isAgg40
 z23:=Tryz.sizeOf40
 v23:=Tryz.zeroValue40
 t25:=Tryz.underlying3
 a25:=Tryz.isAgg3
 z25:=Tryz.sizeOf3
 v25:=Tryz.zeroValue3
 t32:=Tryz.underlying204
 a32:=Tryz.isAgg204
 z32:=Tryz.sizeOf204
 v32:=Tryz.zeroValue204
 t35:=Tryz.underlying334
 a35:=Tryz.isAgg334
 z35:=Tryz.sizeOf334
 v35:=Tryz.zeroValue334
 t36:=Tryz.underlying335
 a36:=Tryz.isAgg335
 z36:=Tryz.sizeOf335
 v36:=Tryz.zeroValue335
 t41:=Tryz.underlying340
 a41:=Tryz.isAgg340
 z41:=Tryz.sizeOf340
 v41:=Tryz.zeroValue340
 t44:=Tryz.underlying293
 a44:=Tryz.isAgg293
 z44:=Tryz.sizeOf293
 v44:=Tryz.zeroValue293
 t46:=Tryz.underlying97
 a46:=Tryz.isAgg97
 z46:=Tryz.sizeOf97
 v46:=Tryz.zeroValue97
 t53:=Tryz.underlying433
 a53:=Tryz.isAgg433
 z53:=Tryz.sizeOf433
 v53:=Tryz.zeroValue433
 t57:=Tryz.underlying436
 a57:=Tryz.isAgg436
 z57:=Tryz.sizeOf436
 v57:=Tryz.zeroValue436
 t63:=Tryz.underlying516
 a63:=Tryz.isAgg516
 z63:=Tryz.sizeOf516
 v63:=Tryz.zeroValue516
 t64:=Tryz.underlying53
 a64:=Tryz.isAgg53
 z64:=Tryz.sizeOf53
 v64:=Tryz.zeroValue53 }
end Go.Proofs
namespace Go.Proofs.YtjoefbioobdinaaGreatDoor
open Go.RowKit Am Go.Maps Go.Sort Go.Shelf
set_option maxRecDepth 100000
set_option linter.unusedVariables false
theorem QF (m:Nat):AnyZI.SortsIn Tryz.prog Tryz.sortedA_ren Fence.wide m:=
 ⟨fun blk off cap ss W hH hblk hsz=>callsIn_wide.2 (AnyM.slices_Sort_int Tryz.sortA blk off cap ss W hH hblk hsz),
  fun p cap W=>callsIn_wide.2 (AnyM.slices_Sort_int_none Tryz.sortA p cap W)⟩
theorem DL {H:Type} (Bm b nn:Nat) (D0:DataW H) (R:Value→Option (DataW H×List MemPlace)) (w:World) (hBm:Bm < w.heap.size) (hm:w.cell? ⟨Bm,0,none⟩=some (.map (some b))) (hown:w.ownsMap Tryz.prog 3 R b nn D0) (hmax:Maps.size D0≤maxLen) (hbytes:Maps.size D0*8≤140737488355328) :
 Calls Tryz.prog 155 #[.func (.func 535) #[] #[.pointer (some ⟨Bm,0,none⟩)]] w fun e w'=>∃(v:Value) (ss:List Int),e = .returned v∧ss.Perm (intKeys D0)∧
  w'.ownsRow w.heap.size 3 1 v ss.length ((ss.mergeSort (fun x y=>decide (x≤y))).map encZ)∧(v = .slice none 0 0↔ss=[])∧Below w.heap.size w w':=by
 have hseq:SeqGives Fence.wide 2 Tryz.prog 535 #[.pointer (some ⟨Bm,0,none⟩)] encZ (fun ss=>ss.Perm (intKeys D0)) (Maps.size D0) w:=
  AnyZI.keys_gives (ρ:=Tryz.keysA_ren) { Tryz.keysA with } Fence.wide _ trivial rfl (by omega) Bm b nn D0 _ hBm hm hown
 exact (callsIn_wide (n:=5)).1 (AnyZI.sorted_in Tryz.sortedA Fence.wide 5 trivial trivial trivial trivial rfl (by omega) (QF _) (enters_of Tryz.func223 (by kernel_rfl) rfl) 535 #[.pointer (some ⟨Bm,0,none⟩)] trivial (enters_of Tryz.func535 (by kernel_rfl) rfl) _ _ hmax hbytes _ hseq)
def zq:DV×DV→Int
 | (.int _ k,_)=>k
 | _=>0
def isKey:DV×DV→Bool
 | (.int .i64 _,_)=>true
 | _=>false
def QG (x:Int):List Int→List Int
 | []=>[x]
 | y::r=>if x≤y then x::y::r else y::QG x r
def wM:List Int→List Int
 | []=>[]
 | x::r=>QG x (wM r)
theorem BF (x:Int):∀l,(QG x l).Perm (x::l)
 | []=>.refl _
 | y::r=>by
   unfold QG;split
   ·exact .refl _
   ·exact ((BF x r).cons y).trans (.swap _ _ _)
theorem zu:∀l,(wM l).Perm l
 | []=>.refl _
 | x::r=>(BF x _).trans ((zu r).cons x)
def WI:List Int→Int→Bool
 | [],_=>true
 | k::r,b=>decide (b < k∧k≤1000000)&&WI r k
theorem FB:∀{ks:List Int} {b:Int},WI ks b=true→(∀k∈ks,b < k∧k≤1000000)∧ks.Pairwise (· < ·)
 | [],_,_=>by simp
 | k::r,b,h=>by
   simp only [WI,Bool.and_eq_true,decide_eq_true_eq] at h;obtain ⟨h1,h2⟩:=FB h.2;refine ⟨fun x hx=>?_,?_⟩
   ·rcases List.mem_cons.1 hx with rfl | hx
    ·exact h.1
    ·have:=h1 x hx;exact ⟨by omega,this.2⟩
   ·rw [List.pairwise_cons];exact ⟨fun x hx=>(h1 x hx).1,h2⟩
theorem aaP:Tryz.prog.underlying 3=some (.int .i64):=by kernel_rfl
abbrev uD:Value→Option (DataW Unit×List MemPlace):=fun _=>some (.nil,[])
abbrev lU (es:List (DV×DV)):List DV:=(wM (es.map zq)).map fun k=>.int .i64 k
theorem Oe (es:List (DV×DV)) (T:Nat) (hl:es.length≤1000) (hi:es.all isKey=true) (hu:WI (wM (es.map zq)) (-1)=true) :
 C Tryz.prog 155 [.gG (.func 535) [] [.ptr 0 0]] [.box T [.map 1],.map es]
  (fun r o=>r = .d (.aF 1 (lU es) false)∧o=[.box T [.map 1],.map es]):=by
 obtain ⟨hk0,hp⟩:=FB hu;have hpm:=zu (es.map zq)
 have hk:∀p∈es,p.1 = .int .i64 (zq p)∧-1 < zq p∧zq p≤1000000:=fun p hp=>by
  refine ⟨?_,hk0 (zq p) (hpm.mem_iff.2 (List.mem_map.2 ⟨p,hp,rfl⟩))⟩
  have:=List.all_eq_true.1 hi p hp
  obtain ⟨x,y⟩:=p;cases x<;>simp [isKey] at this
  rename_i k n;cases k<;>simp at this
  rfl
 intro κ φ w vs h1 h2 h3 h4
 have hv:∃bm,vs = #[.func (.func 535) #[] #[.pointer (some ⟨bm,0,none⟩)]]∧φ 0 = .at bm:=by
  have hs:vs.size=1:=by simpa using h3
  have:=h4 0 _ vs[0] rfl (by simp [hs])
  generalize hx:vs[0]=x at this;cases this with
  | gG hfl hcl hf hc=>
    rename_i f c;have e1:f = #[]:=by apply Array.eq_empty_of_size_eq_zero;simpa using hfl
    have hcs:c.size=1:=by simpa using hcl
    have:=hc 0 (.ptr 0 0) c[0] rfl (by simp [hcs])
    generalize hy:c[0]=y at this;cases this with
    | ptr hφ=>
      rename_i bm;refine ⟨bm,?_,hφ⟩;apply Array.ext
      ·simp [hs]
      ·intro i hi hi2
       have:i=0:=by simp at hi2;omega
       subst this;rw [hx,e1]
       have:c = #[.pointer (some ⟨bm,0,none⟩)]:=by
        apply Array.ext
        ·simp [hcs]
        ·intro i hi hi2
         have:i=0:=by simp at hi2;omega
         subst this;rw [hy];rfl
       rw [this];rfl
 obtain ⟨bm,rfl,hφ0⟩:=hv;have o0:=h1 0;obtain ⟨b0,c,q1,q2,q3,q4,q5,q6⟩:=o0;have hb0:b0=bm:=by rw [q1] at hφ0;injection hφ0
 subst hb0;have o1:=h1 1;obtain ⟨b,eF,clock,g1,g2,g3,⟨g4,gn⟩,g5⟩:=o1;have hcs:c.size=1:=by simpa using q4
 have hc0:c[0]? = some (.map (some b)):=by
  have:=q6 0 (.map 1) c[0] rfl (by simp [hcs])
  generalize hy:c[0]=y at this;cases this with
  | map hφ=>
    rename_i b'
    have:b=b':=by rw [g1] at hφ;injection hφ
    subst this;simp [hcs,hy]
 have hbm:b0 < w.heap.size:=h2.lt b0 (by rw [q2];simp)
 have hcell:w.cell? ⟨b0,0,none⟩=some (.map (some b)):=by
  simp only [World.cell?,q3];simpa using hc0
 have hrow:∀(j:Nat) (e:MapEntry),eF[j]? = some e→∃p,es[j]? = some p∧e.key = .int .i64 (zq p)∧e.born < clock:=fun j e he=>by
  have hj:j < eF.size:=(Array.getElem?_eq_some_iff.1 he).1;have hj2:j < es.length:=by omega
  refine ⟨es[j],by simp [hj2],?_,(g5 j es[j] e (by simp [hj2]) he).2.2⟩
  have:=(g5 j es[j] e (by simp [hj2]) he).1
  rw [(hk es[j] (List.getElem_mem hj2)).1] at this;generalize e.key=x at this;cases this;rfl
 have hkeys:eF.toList.map (fun e=>e.key)=es.map fun p=>Value.int .i64 (zq p):=by
  apply List.ext_getElem?;intro j;rw [List.getElem?_map,List.getElem?_map,Array.getElem?_toList];cases he:eF[j]? with
  | none=>
    have:es[j]? = none:=by
     rw [List.getElem?_eq_none_iff];rw [Array.getElem?_eq_none_iff] at he;omega
    rw [this];rfl
  | some e=>
    obtain ⟨p,hp1,hp2,_⟩:=hrow j e he;rw [hp1];simp [hp2]
 have hnd:(es.map zq).Nodup:=hpm.nodup_iff.1 (hp.imp (fun h=>by omega))
 have hwf:∀p∈es,(Lit.int .i64 (zq p)).wf=true:=fun p hp=>by
  obtain ⟨_,q2,q3⟩:=hk p hp;have e1:IntKind.i64.min≤zq p:=Int.le_trans (by decide:IntKind.i64.min≤0) (by omega);have e2:zq p≤IntKind.i64.max:=Int.le_trans q3 (by decide);simp only [Lit.wf,e1,e2,decide_true,Bool.and_true]
 have hrd:∀x∈eF.toList,∃k:Int,x.key = .int .i64 k∧Go.WideElems.rd Tryz.prog 3 uD x=some (.int .i64 k,.nil):=fun x hx=>by
  obtain ⟨j,hj,he⟩:=List.mem_iff_getElem.1 hx;obtain ⟨p,hp1,hp2,_⟩:=hrow j x (by rw [←he];simp);refine ⟨zq p,hp2,?_⟩;unfold Go.WideElems.rd;rw [hp2,keyOf_int_mk aaP (hwf p (List.mem_of_getElem? hp1))];rfl
 have hfit:Go.WideElems.Fit Tryz.prog 3 uD eF clock:={
  size:=by have:(1000:Nat)≤maxLen:=by decide
           omega
  stamped:=⟨fun x hx=>by
   obtain ⟨j,hj,he⟩:=List.mem_iff_getElem.1 hx;obtain ⟨p,_,_,hp3⟩:=hrow j x (by rw [←he];simp)
   exact hp3,gn,by
    show (eF.toList.map (fun e=>e.key)).Nodup
    rw [hkeys]
    have:(es.map fun p=>Value.int .i64 (zq p))=(es.map zq).map (Value.int .i64):=by simp
    rw [this];exact hnd.map _ (fun a b hne e=>hne (by injection e))⟩
  reads:=fun x hx=>by obtain ⟨k,_,h⟩:=hrd x hx;exact ⟨_,h⟩ }
 have hown:w.ownsMap Tryz.prog 3 uD b eF.size (.map ((eF.toList.map (Go.WideElems.rg Tryz.prog 3 uD)).foldr DataW.insert [])):=
  ⟨eF,clock,g3,hfit,Nat.le_refl _,rfl⟩
 have hperm:=Go.WideShapes.sorted_perm (eF.toList.map (Go.WideElems.rg Tryz.prog 3 uD))
 have hik:(intKeys (DataW.map ((eF.toList.map (Go.WideElems.rg Tryz.prog 3 uD)).foldr DataW.insert []))).Perm (es.map zq):=by
  refine (hperm.map (fun p=>Go.intOf p.1)).trans ?_;rw [List.map_map]
  have:(eF.toList.map ((fun p:Lit×DataW Unit=>Go.intOf p.1)∘Go.WideElems.rg Tryz.prog 3 uD))=es.map zq:=by
   apply List.ext_getElem?;intro j;rw [List.getElem?_map,List.getElem?_map,Array.getElem?_toList];cases he:eF[j]? with
   | none=>
     have:es[j]? = none:=by
      rw [List.getElem?_eq_none_iff];rw [Array.getElem?_eq_none_iff] at he;omega
     rw [this];rfl
   | some e=>
     obtain ⟨p,hp1,hp2,_⟩:=hrow j e he;rw [hp1];obtain ⟨k,hk1,hk2⟩:=hrd e (by have:=Array.getElem?_eq_some_iff.1 he;obtain ⟨hj,e1⟩:=this;rw [←e1];simp);rw [hp2] at hk1;injection hk1 with _ hk1;simp [Go.WideElems.rg,hk2,Go.intOf,hk1]
  rw [this]
 have hsize:Maps.size (DataW.map ((eF.toList.map (Go.WideElems.rg Tryz.prog 3 uD)).foldr DataW.insert []))≤1000:=by
  show List.length _≤1000
  rw [hperm.length_eq,List.length_map,Array.length_toList];omega
 refine (DL b0 b eF.size _ uD w hbm hcell hown (Nat.le_trans hsize (by decide)) (by omega)).mono ?_
 rintro e w' ⟨v,ss,rfl,hss,hrw,_,hB⟩
 have hsort:ss.mergeSort (fun x y=>decide (x≤y))=wM (es.map zq):=by
  have e1:=mergeSort_of_perm_i (hss.trans hik)
  have e2:(es.map zq).mergeSort leI=wM (es.map zq):=by
   rw [←mergeSort_of_perm_i hpm];apply List.mergeSort_of_pairwise;exact hp.imp (fun h=>by simp [leI];omega)
  exact e1.trans e2
 have hlen:ss.length=(lU es).length:=by
  rw [(hss.trans hik).length_eq];simp [hpm.length_eq]
 rw [hsort] at hrw
 obtain ⟨d1,d2,d3⟩:=Go.Am.newRow (κ:=κ) (els:=lU es) hrw hlen (fun x hx=>by
  obtain ⟨p,_,rfl⟩:=List.mem_map.1 hx;exact ⟨rfl,fun y hy=>by simp [DV.cells] at hy;subst hy;rfl⟩) (fun i x j y u hx hy hu=>by
  simp only [lU,List.getElem?_map,Option.map_eq_some_iff] at hx;obtain ⟨p,hp1,rfl⟩:=hx;cases j with
  | succ j=>simp [DV.cells] at hy
  | zero=>
    simp [DV.cells] at hy;subst hy;simp [hp1] at hu;subst hu
    rfl) h2.lt hB.size
 have hM:dW κ φ (aR [ay.box T [RV.map 1],.map es]) w.heap (mW κ v) φ (aR [ay.box T [RV.map 1],.map es]) w'.heap:={
  dS:=fun b hb=>⟨(d2 b (h2.lt b (by rw [hb];simp))).trans hb,hB.block b (h2.lt b (by rw [hb];simp))⟩
  w9:=fun b c ty fz hc=>by
   have hl:b < w.heap.size:=by
    rcases Nat.lt_or_ge b w.heap.size with h' | h'
    ·exact h'
    ·rw [Array.getElem?_eq_none h'] at hc;simp at hc
   exact ⟨c,fz,(hB.block b hl).trans hc,rfl⟩
  phi:=fun _ _=>rfl
  len:=fun _ _ _ h=>h }
 refine ⟨v,_,_,mW κ v,φ,rfl,⟨rfl,rfl⟩,.d d1,fun i=>?_,h2.step ⟨hB.size,hM.dS,fun b hl hb=>⟨(d2 b hl).trans hb,hB.block b hl⟩,hM.w9,hB.os,hB.output⟩ d3,Nat.le_refl _,⟨hB.size,hM.dS,fun b hl hb=>⟨(d2 b hl).trans hb,hB.block b hl⟩,hM.w9,hB.os,hB.output⟩,Kp.refl _ _⟩;exact (h1 i).mono hM (fun b hb=>⟨(d2 b (h2.lt b (by rw [hb];simp))).trans hb,hB.block b (h2.lt b (by rw [hb];simp))⟩) rfl
def Og:kZ:=fun a o=>match a,o with
 | [.gG (.func f) [] [.ptr 0 0]],[.box T [.map 1],.map es]=>
   bif Nat.beq f 535&&Nat.ble es.length 1000&&es.all isKey&&WI (wM (es.map zq)) (-1) then some (.d (.aF 1 (lU es) false),[.box T [.map 1],.map es],[]) else none
 | _,_=>none
theorem Oh:bY Tryz.prog 155 Og:=by
 intro a o r o' c hg _;unfold Og at hg;split at hg
 ·rename_i f T es;cases hb:(Nat.beq f 535&&Nat.ble es.length 1000&&es.all isKey&&WI (wM (es.map zq)) (-1)) with
  | false=>rw [hb] at hg;cases hg
  | true=>
    rw [hb] at hg;simp only [cond_true,Option.some.injEq,Prod.mk.injEq] at hg;obtain ⟨rfl,rfl,rfl⟩:=hg;simp only [Bool.and_eq_true] at hb
    have:=bV hb.1.1.1;subst this
    exact Oe es T (Nat.le_of_ble_eq_true hb.1.1.2) hb.1.2 hb.2
 ·cases hg
end Go.Proofs.YtjoefbioobdinaaGreatDoor
namespace Go.Proofs.YtjoefbioobdinaaGreatDoor
open Go.RowKit Am
noncomputable def tbB:List (Nat×kZ):=[(531,Sv),
 (130,e2 PE),
 (292,e2 Sw),
 (304,e2 Sy),
 (144,zl),
 (90,Hl),
 (433,Ko),
 (219,Oc),
 (221,Ko),
 (155,Og)]
theorem Uk:eZ Tryz.prog tbB:=.cons PD (.cons IZ (.cons PG (.cons PI (.cons zm (.cons Dz (.cons QE (.cons Od (.cons Oa (.cons Oh .nil)))))))))
noncomputable def aO:uI:=EJ tbB
theorem Oi:aX Tryz.prog (aM aO []):=yM Uk
end Go.Proofs.YtjoefbioobdinaaGreatDoor
namespace Go.Am
set_option linter.unusedSectionVars false
variable {P:Program} [Gl]
def Wp:Result Next→Bool
 | .ok (.value _) _=>true
 | _=>false
def vOf:Result Next→Value
 | .ok (.value v) _=>v
 | _=>undef
def wOf (d:World):Result Next→World
 | .ok (.value _) w=>w
 | _=>d
theorem cu {ops:Array Oper} {Q:Exit→Act→World→Prop} {i:Nat} {rest:List Nat} {o:Oper} {a:Act} {w:World} (hi:ops[i]? = some o) (hg:o.guard.isNone=true) (hr:Wp ((execOp a.eval o).run P w)=true)
 (h:wpOps P ops Q rest (a.put o.dst (vOf ((execOp a.eval o).run P w))) (wOf w ((execOp a.eval o).run P w))):wpOps P ops Q (i::rest) a w:=by
 rw [wpOps_cons];unfold wpOp;rw [hi];have hg:o.guard=none:=by simpa using hg
 simp only [Region.wanted,hg,if_true];left;cases hx:(execOp a.eval o).run P w with
 | halt e w'=>rw [hx] at hr;cases hr
 | ok n w'=>
   rw [hx] at hr h;cases n<;>first | (cases hr;done) | exact fB hx h
theorem jN {ops:Array Oper} {Q:Exit→Act→World→Prop} {i:Nat} {rest:List Nat} {o:Oper} {a:Act} {w:World} {t g z:Nat} {x:Operand} {c:Array Value} {ty:TypeId} (hi:ops[i]? = some o) (hg:o.guard.isNone=true)
 (hop:o.op = .store t (.global g) x) (hz:(Env.of P).size t=some z) (hev:a.eval (.global g) = .pointer (some ⟨g,0,none⟩)) (hb:w.heap[g]? = some (.cells c ty (0,0)))
 (hc:(Nat.beq (a.eval x).cells.size z&&Nat.ble z c.size&&(a.eval x).cells.toList.all Value.oneCell)=true)
 (h:wpOps P ops Q rest (a.put o.dst undef) (World.row w g (.cells (fu c 0 (a.eval x).cells.toList) ty (0,0)))):wpOps P ops Q (i::rest) a w:=by
 rw [wpOps_cons];unfold wpOp;rw [hi];have hg:o.guard=none:=by simpa using hg
 simp only [Region.wanted,hg,if_true];left;simp only [Bool.and_eq_true] at hc;have h1:=bV hc.1.1;have h2:=Nat.le_of_ble_eq_true hc.1.2;have hrun:=kH (P:=P) (t:=t) (z:=z) (b:=g) (o:=0) (v:=a.eval x) hz hb (fun o _ h=>by omega) h1 (by omega) (fun y hy=>List.all_eq_true.1 hc.2 y (by simpa using hy));refine tL (w':=World.row w g (.cells (fu c 0 (a.eval x).cells.toList) ty (0,0))) ?_ h;simp only [execOp,hop,hev,Sem.run_bind,hrun,Result.andThen_ok,Sem.run_pure]
theorem zw {ops:Array Oper} {Q:Exit→Act→World→Prop} {i:Nat} {rest:List Nat} {o:Oper} {a:Act} {w w' : World} {f:FuncId} {args:Array Value} {v:Value} (hi:ops[i]? = some o) (hg:o.guard.isNone=true)
 (hr:(execOp a.eval o).run P w = .ok (.enter f args) w) (hC:Calls P f args w fun e w2=>e = .returned v∧w2=w') (h:wpOps P ops Q rest (a.put o.dst v) w'):wpOps P ops Q (i::rest) a w:=by
 rw [wpOps_cons];unfold wpOp;rw [hi];have hg:o.guard=none:=by simpa using hg
 simp only [Region.wanted,hg,if_true];left;unfold Oper.wp;rw [hr,Oper.upon_enter];refine hC.mono ?_
 rintro e w2 ⟨rfl,rfl⟩
 exact h
theorem iN {id:Nat} {ops:Array Oper} {y:Code} {Q:Exit→Act→World→Prop} {a:Act} {w:World} (h:wpOps P ops (fun e a2 w2=>e = .normal∧Code.wp P y Q a2 w2) (List.range ops.size) a w) :
 Code.wp P (.seq (.region id ops false) y) Q a w:=by
 intro b k cs;obtain ⟨e,a2,w2,⟨rfl,hy⟩,harr⟩:=wp_region (id:=id) h b (.code y::k) cs;obtain ⟨e,a3,w3,hq,Y4⟩:=hy b k cs;exact ⟨e,a3,w3,hq,Arrives.of_steps (Steps.trans (Steps.one step_seq) harr) Y4⟩
end Go.Am
namespace Go.Am
set_option linter.unusedSectionVars false
open Go.ChangeShapes Go.WideShapes Go.ChangeAt Go.WideMaps Go.WideElems Go.RowKit
variable {P:Program} [Gl] {H:Type} {enc:TypeId×Value→H}
theorem zX {W:World} {x:String×DataW Unit} {l:List (String×DataW Unit)} {ps:List MemPlace} (h:DataW.LaidVars P W (x::l) ps):∃q,DataW.LaidVars P W l q:=by
 obtain ⟨_,_,_,_,_,q,_,_,_,_,h,_⟩:=h;exact ⟨q,h⟩
theorem jg {W:World}:∀(n:Nat) {l:List (String×DataW Unit)} {ps:List MemPlace},DataW.LaidVars P W l ps→∃q,DataW.LaidVars P W (l.drop n) q
 | 0,_,ps,h=>⟨ps,h⟩
 | _+1,[],ps,h=>⟨ps,h⟩
 | n+1,_::_,_,h=>by
   obtain ⟨q,h⟩:=zX h;exact jg n h
theorem uE {W:World} {name:String} {k:IntKind} {zs:List Int} {rest:List (String×DataW Unit)} {g:Nat} {t e:TypeId} {n:Nat} {ps:List MemPlace}
 (hg:P.globalNamed name=some g) (hty:(P.globals[g]?).map (·.type)=some t) (ht:P.underlying t=some (.array n e)) (he:P.underlying e=some (.int k)) (hce:P.cellsOf e=1) (hct:P.cellsOf t=n)
 (h:DataW.LaidVars P W ((name,Lib.tabData k zs)::rest) ps):∃ty fz,W.heap[g]? = some (.cells (zs.map fun z=>Value.int k z).toArray ty fz):=by
 obtain ⟨g',t',cs,fuel,p,q,hg',ht',hvar,hd,_,_⟩:=h;obtain rfl:=Option.some.inj (hg.symm.trans hg');obtain rfl:=Option.some.inj (hty.symm.trans ht');have hcs:=Lib.cells_of_tab ht he hce hct hd;unfold World.var? at hvar;rw [hg] at hvar;simp only [Option.bind_some] at hvar;split at hvar
 ·rename_i c ty fz hh;injection hvar with hvar;subst hvar;exact ⟨ty,fz,by rw [hh,←hcs]⟩
 ·cases hvar
def zx:List Nat→Nat→Bool
 | [],_=>true
 | k::r,m=>bif Nat.beq (Nat.mod (Nat.shiftRight m k) 2) 1 then false else zx r (Nat.lor m (Nat.shiftLeft 1 k))
theorem Jm (m k:Nat):Nat.beq (Nat.mod (Nat.shiftRight m k) 2) 1=m.testBit k:=by
 have:m.testBit k=decide ((m >>> k) % 2=1):=by
  simp only [Nat.testBit,Nat.shiftRight_eq_div_pow,Nat.and_comm 1,Nat.and_one_is_mod];rcases Nat.mod_two_eq_zero_or_one (m / 2 ^ k) with h | h<;>rw [h]<;>rfl
 rw [this]
 show Nat.beq ((m >>> k) % 2) 1=_
 by_cases h:(m >>> k) % 2=1
 ·rw [h];rfl
 ·rw [zY h];simp [h]
theorem Y5 (j:Nat) (h:j≠0):Nat.testBit 1 j=false:=by
 have h2:2≤2 ^ j:=Nat.pow_le_pow_right (n:=2) (i:=1) (by omega) (by omega);have h3:1 / 2 ^ j=0:=Nat.div_eq_of_lt (by omega);simp [Nat.testBit,Nat.shiftRight_eq_div_pow,h3]
theorem wN:∀(l:List Nat) (m:Nat),zx l m=true→l.Nodup∧∀k∈l,m.testBit k=false
 | [],m,_=>⟨List.nodup_nil,by simp⟩
 | k::r,m,h=>by
   simp only [zx,Jm] at h;cases hb:m.testBit k with
   | true=>rw [hb] at h;cases h
   | false=>
     rw [hb] at h;simp only [cond_false] at h;obtain ⟨h1,h2⟩:=wN r _ h
     have hbit:∀j,(Nat.lor m (Nat.shiftLeft 1 k)).testBit j=(m.testBit j||decide (k=j)):=fun j=>by
      show (m ||| 1 <<< k).testBit j=_
      rw [Nat.testBit_or,Nat.testBit_shiftLeft];congr 1;by_cases hkj:k≤j
      ·by_cases e:k=j
       ·subst e;simp
       ·have:j-k≠0:=by omega
        have h1:Nat.testBit 1 (j-k)=false:=by
         exact Y5 _ this
        rw [h1];simp [e]
      ·have:k≠j:=by omega
       simp [this,hkj]
     refine ⟨List.nodup_cons.2 ⟨fun hk=>?_,h1⟩,fun j hj=>?_⟩
     ·have:=h2 k hk
      rw [hbit] at this;simp at this
     ·rcases List.mem_cons.1 hj with rfl | hj
      ·exact hb
      ·have:=h2 j hj
       rw [hbit] at this;simp only [Bool.or_eq_false_iff] at this;exact this.1
def Wq:MemPlace→Nat
 | .cell b off=>b*1024+off
 | .map b=>b*1024
theorem FC {P:Program} {w:World} {l:List (String×DataW Unit)} (fuel:Nat) (h1:(DataW.laidRun P w fuel (l.map (·.1))).map (·.1)=some l)
 (h2:(DataW.laidRun P w fuel (l.map (·.1))).map (fun x=>zx (x.2.map Wq) 0)=some true) (h3:(DataW.laidRun P w fuel (l.map (·.1))).map (fun x=>laidRowsB P w x.2)=some true):laidMet P l w:=by
 refine laidMet_of_run' fuel h1 ?_;cases hx:DataW.laidRun P w fuel (l.map (·.1)) with
 | none=>rw [hx] at h1;cases h1
 | some x=>
   rw [hx] at h2 h3;simp only [Option.map_some,Option.some.injEq] at h2 h3 ⊢;have hn:x.2.Nodup:=List.Pairwise.of_map Wq (fun a b h e=>h (by rw [e])) (wN _ _ h2).1;rw [h3,decide_eq_true hn];rfl
end Go.Am
namespace Go.Am
set_option linter.unusedSectionVars false
variable {P:Program} [Gl]
noncomputable def Ic (n:Nat) (k:Nat→List Nat):List Nat:=Nat.rec (motive:=fun _=>List Nat) (k 0) (fun m _=>k (Nat.succ m)) n
theorem Kt (n:Nat) (k:Nat→List Nat):Ic n k=k n:=by cases n<;>rfl
noncomputable def vX (P:Program) (n:Nat):List Nat→List Nat→Nat→List Nat:=
 Nat.rec (motive:=fun _=>List Nat→List Nat→Nat→List Nat) (fun _ seen _=>seen.reverse)
  (fun _ ih todo seen m=>List.rec (motive:=fun _=>List Nat) seen.reverse (fun f todo _=>Bool.rec (motive:=fun _=>List Nat)
    (Ic (Nat.lor m (Nat.shiftLeft 1 f)) (ih ((P.funcs[f]?).elim [] P.leadsTo++todo) (f::seen))) (ih todo seen m) (NW m f)) todo) n
theorem Ou (m k:Nat):NW m k=m.testBit k:=Jm m k
theorem QK (m k j:Nat):(Nat.lor m (Nat.shiftLeft 1 k)).testBit j=(m.testBit j||decide (k=j)):=by
 show (m ||| 1 <<< k).testBit j=_
 rw [Nat.testBit_or,Nat.testBit_shiftLeft];congr 1;by_cases hkj:k≤j
 ·by_cases e:k=j
  ·subst e;simp
  ·have:j-k≠0:=by omega
   rw [Y5 _ this];simp [e]
 ·have:k≠j:=by omega
  simp [this,hkj]
theorem vY:∀(n:Nat) (todo seen:List Nat) (m:Nat),(∀k,m.testBit k=seen.contains k)→vX P n todo seen m=P.closureVia n todo seen
 | 0,todo,seen,m,_=>by
   show seen.reverse=_
   simp [Program.closureVia]
 | n+1,[],seen,m,_=>by
   show seen.reverse=_
   simp [Program.closureVia]
 | n+1,f::todo,seen,m,h=>by
   have e:vX P (n+1) (f::todo) seen m=Bool.rec (motive:=fun _=>List Nat)
    (Ic (Nat.lor m (Nat.shiftLeft 1 f)) (vX P n ((P.funcs[f]?).elim [] P.leadsTo++todo) (f::seen))) (vX P n todo seen m) (NW m f):=rfl
   rw [e,Ou,h f];simp only [Program.closureVia];cases hc:seen.contains f with
   | true=>exact vY n todo seen m h
   | false=>
     simp only [Bool.false_eq_true,if_false,Kt];refine vY n _ _ _ (fun k=>?_);rw [QK,h k];simp only [List.contains_cons];by_cases e:k=f
     ·subst e;simp
     ·have:¬f=k:=fun h=>e h.symm
      simp [this,e]
theorem Ie {f n:Nat} {L:List Nat} (hn:1+(P.funcs.toList.map fun g=>(P.leadsTo g).length+1).sum=n) (h:vX P n [f] [] 0=L):P.closure f=L:=by
 unfold Program.closure;rw [hn,←h];exact (vY n [f] [] 0 (fun k=>by simp)).symm
end Go.Am
