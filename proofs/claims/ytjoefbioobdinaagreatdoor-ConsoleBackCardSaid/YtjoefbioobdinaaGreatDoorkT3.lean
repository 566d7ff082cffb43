/-
  The run of the program's own initialisers, from the heap in which no variable is laid: it ends, and leaves that memory.
-/
import Derived.Test.YtjoefbioobdinaaGreatDoorkT2
import Derived.LaidByTextLater
namespace Go.Proofs.YtjoefbioobdinaaGreatDoor
open Go.RowKit Am
set_option maxRecDepth 1000000
theorem Ew:∀os,(World.unlaid Tryz.prog os).heap=uW:=fun _=>by kernel_rfl
theorem P8:Tryz.prog.inits.idxOf? 799=none:=by kernel_rfl
theorem Ns (os:Os) (tape:Tape):∃n v w',runN Tryz.prog n (Machine.entering Tryz.prog (World.unlaid Tryz.prog os) tape 799 ⟨#[],#[],[]⟩) = .ended (.done v) w'∧w'.memory=Ni:=by
 have hC:=JD tape 0 (World.unlaid Tryz.prog os).os (World.unlaid Tryz.prog os).output;have hD:=Calls.done (R:=fun _ w'=>w'.heap=Nh) (hC.mono fun e w' h=>by obtain ⟨v,rfl,h⟩:=h;exact h) P8;obtain ⟨n,v,w',hr,hh⟩:=hD;refine ⟨n,v,w',?_,?_⟩
 ·have hw:Machine.entering Tryz.prog (World.unlaid Tryz.prog os) tape 799 ⟨#[],#[],[]⟩=lone (Frame.enter Tryz.prog 799 #[] .normal) [] { heap:=uW,tape:=tape,drawn:=0,os:=(World.unlaid Tryz.prog os).os,output:=(World.unlaid Tryz.prog os).output }:=by
   unfold Machine.entering;rw [show (⟨#[],#[],[]⟩:Input).heap (World.unlaid Tryz.prog os).heap=uW by rw [Ew];rfl];rfl
  rw [hw];exact hr
 ·unfold World.memory Ni;rw [hh]
end Go.Proofs.YtjoefbioobdinaaGreatDoor
