/-
  NetTells: the tables and the states.
-/
import Derived.Test.YtchmeldlpoimnaaAmW1
namespace Go.Proofs.Ytchmeldlpoimnaa
open Go.RowKit Am IntWalk
set_option maxRecDepth 100000
set_option linter.unusedVariables false

def heavyG : DV → Option (DV × List Bool)
  | .lst 5 els false => some (.bool (heavyB (els.map toO)), [els.all isO, decide (els.length ≤ 9223372036854775807)])
  | _ => none
noncomputable abbrev hvC : Code := bodyOf Try.f36
def hvS (l : List Opx) (i : Nat) (n : Int) : ESt := { n := 24, m := 0, regs := T.mk [(0, .d (.lst 5 (l.map oD) false)), (3, .d (.int .i64 n)), (6, .d (.lst 5 (l.map oD) false)), (7, .d (.int .i64 ((l.map oD).length : Int))), (8, .d (.int .i64 (i : Int)))], objs := T.nil }
def newEn : Ent := fun a o => match a, o with
  | [], [] => some (.ptr 0 0, netO [] 0, [])
  | _, _ => none
noncomputable def tw0 : List (Nat × Ent) := (37, newEn) :: (36, e1 heavyG) :: (35, e0 (some (.bool true, []))) :: tv5
noncomputable abbrev tlC : Code := bodyOf Try.f11
def tlR (l : List Opx) (came i : Int) : List (Nat × RV) := [(3, .ptr 200 0), (4, .map 201), (5, .d (.int .i64 came)), (24, .d (.lst 5 (l.map oD) false)), (25, .d (.int .i64 ((l.map oD).length : Int))), (26, .d (.int .i64 i))]
def tlO (nr : List (DV × DV)) (last : Int) (ss : List (DV × DV)) : List (Nat × PObj) := [(200, .box 115 [.map 202, .d (.int .i64 last)]), (201, .map ss), (202, .map nr)]
def tlG (l : List Opx) (nr : List (DV × DV)) (last : Int) (ss : List (DV × DV)) (came i : Int) : ESt := { n := 173, m := 0, regs := T.mk (tlR l came i), objs := T.mk (tlO nr last ss) }
abbrev tlS (l : List Opx) (L : List Ltr) (last : Int) (S : List Ltr) (came i : Nat) : ESt := tlG l (rows L) last (rowsS S) (came : Int) (i : Int)
def inG (l : List Opx) (nr : List (DV × DV)) (last : Int) (ss : List (DV × DV)) (came i j oth : Int) (x w : Ltr) : ESt := { n := 173, m := 0, regs := T.mk [(3, .ptr 200 0), (4, .map 201), (5, .d (.int .i64 came)), (10, .ptr 202 0), (12, .ptr 203 0), (14, .d (.int .i64 oth)), (24, .d (.lst 5 (l.map oD) false)), (25, .d (.int .i64 ((l.map oD).length : Int))), (26, .d (.int .i64 i)), (103, .d (.int .i64 (x.bs.length : Int))), (104, .d (.int .i64 j))], objs := T.mk [(200, .box 115 [.map 204, .d (.int .i64 last)]), (201, .map ss), (202, .box 61 [.d (.int .i64 x.id), .d (.int .i64 x.frm), .d (.int .i64 x.dst), .d (.str x.bs), .d (.bool x.sp)]), (203, .box 61 [.d (.int .i64 0), .d (.int .i64 w.frm), .d (.int .i64 w.dst), .d (.str w.bs), .d (.bool false)]), (204, .map nr)] }
end Go.Proofs.Ytchmeldlpoimnaa
