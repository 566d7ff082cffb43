/-
  The table with the reference's May and Bytes.
-/
import Derived.Test.YtchmeldlpoimnaaAmR4
namespace Go.Proofs.Ytchmeldlpoimnaa
open Go.RowKit Am IntWalk
set_option maxRecDepth 100000

def rmCs (n : Nod) : List Bool := [decide (n.cells.length ≤ 500000)]
def rbCs (n : Nod) : List Bool := mayB n :: nkCs n
noncomputable def trD : List (Nat × Ent) := (32, e1 fun x => some (.bool (mayB (toNod x)), isNod x :: rmCs (toNod x))) :: (33, e1 fun x => some (.str (byAll (toNod x)), isNod x :: rbCs (toNod x))) :: trC
theorem trD_ok : EntsOk Try.prog trD :=
  .cons (nod_ent (g := fun n => .bool (mayB n)) (cs := rmCs) fun n h => by have := mayR_c n (of_decide_eq_true (h _ (.head _))); rw [mayR_eq] at this; exact this)
    (.cons (nod_ent (g := fun n => .str (byAll n)) (cs := rbCs) fun n h => rbytes_c n (h _ (.head _)) (nkCs_ok fun b hb => h b (.tail _ hb))) trC_ok)
end Go.Proofs.Ytchmeldlpoimnaa
