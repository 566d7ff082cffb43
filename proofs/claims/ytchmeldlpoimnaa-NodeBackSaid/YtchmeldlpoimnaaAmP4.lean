/-
  Taking a page: the states of the loop.
-/
import Derived.Test.YtchmeldlpoimnaaAmP3
namespace Go.Proofs.Ytchmeldlpoimnaa
open Go.RowKit Am IntWalk
set_option maxRecDepth 100000
set_option linter.unusedVariables false

noncomputable abbrev ntC : Code := (Try.f26.body).getD .skip
def ntR (s : Bs) (many : Int) (i : Nat) : T RV := T.mk [(0, .d (.str s)), (2, .ptr 200 0), (4, .ptr 201 0), (5, .clo (.func 71) [.ptr 201 0] []), (6, .ptr 202 0), (7, .d (.int .i64 many)), (8, .d (.int .i64 (i : Int)))]
def ntO (r1 : Bs) (r2 : Bool) (k fi : Int) (c : RV) : List (Nat × PObj) := [(200, .box 39 [.d (.int .u8 0), .d (.int .i64 0), .d (.lst 0 [] true), .d (.str [])]), (201, .box 106 [.d (.str r1), .d (.bool r2)]), (202, .box 39 [.d (.int .u8 k), .d (.int .i64 fi), c, .d (.str [])])]
def ntS0 (s : Bs) (many k fi : Int) (r1 : Bs) (r2 : Bool) (i : Nat) : ESt := { n := 103, m := 0, regs := ntR s many i, objs := T.mk (ntO r1 r2 k fi (.d (.lst 0 [] true))) }
def ntS1 (s : Bs) (many k fi : Int) (r1 : Bs) (r2 : Bool) (i : Nat) (els : List DV) : ESt := { n := 103, m := 0, regs := ntR s many i, objs := T.mk (ntO r1 r2 k fi (.own 203 4) ++ [(203, .arr 42 4 els)]) }
end Go.Proofs.Ytchmeldlpoimnaa
