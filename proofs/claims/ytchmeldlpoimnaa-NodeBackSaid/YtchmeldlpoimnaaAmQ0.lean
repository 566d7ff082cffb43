/-
  The reference's Same, value, part, Take: the states of their loops.
-/
import Derived.Test.YtchmeldlpoimnaaAmP6
import Derived.Test.YtchmeldlpoimnaaAmP7
namespace Go.Proofs.Ytchmeldlpoimnaa
open Go.RowKit Am IntWalk
set_option maxRecDepth 100000
set_option linter.unusedVariables false

noncomputable abbrev smC : Code := (Try.f29.body).getD .skip
def ndO (N : Nod) : PObj := .box 39 [.d (.int .u8 N.kind), .d (.int .i64 N.first), .d (.lst 4 (N.cells.map cD) false), .d (.str N.data)]
def smS (N : Nod) (i : Nat) : ESt := { n := 52, m := 0, regs := T.mk [(2, .ptr 200 0), (3, .ptr 201 0), (5, .d (.int .i64 (i : Int)))], objs := T.mk [(200, ndO N), (201, ndO N)] }
noncomputable abbrev vaC : Code := (Try.f76.body).getD .skip
def vaS (s : Bs) (a m j : Nat) (v : Int) : ESt := { n := 30, m := 0, regs := T.mk [(0, .d (.str s)), (1, .d (.int .i64 (a : Int))), (2, .d (.int .i64 (m : Int))), (7, .d (.int .i64 v)), (8, .d (.int .i64 ((a + j : Nat) : Int)))], objs := T.nil }
noncomputable abbrev paC : Code := (Try.f77.body).getD .skip
noncomputable abbrev rtC : Code := (Try.f34.body).getD .skip
def rtR (s : Bs) (many a : Int) (i : Nat) : T RV := T.mk [(0, .d (.str s)), (2, .ptr 200 0), (4, .ptr 201 0), (5, .d (.int .i64 many)), (6, .d (.int .i64 a)), (7, .d (.int .i64 (i : Int)))]
def rtO (k fi : Int) (dd : Bs) (c : RV) : List (Nat × PObj) := [(200, .box 39 [.d (.int .u8 0), .d (.int .i64 0), .d (.lst 0 [] true), .d (.str [])]), (201, .box 39 [.d (.int .u8 k), .d (.int .i64 fi), c, .d (.str dd)])]
def rtS0 (s : Bs) (many k fi : Int) (dd : Bs) (a : Int) (i : Nat) : ESt := { n := 116, m := 0, regs := rtR s many a i, objs := T.mk (rtO k fi dd (.d (.lst 0 [] true))) }
def rtS1 (s : Bs) (many k fi : Int) (dd : Bs) (a : Int) (i : Nat) (els : List DV) : ESt := { n := 116, m := 0, regs := rtR s many a i, objs := T.mk (rtO k fi dd (.own 202 4) ++ [(202, .arr 42 4 els)]) }
end Go.Proofs.Ytchmeldlpoimnaa
