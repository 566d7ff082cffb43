/-
  The closed machine of this program: the contracts of Go's library that stand under all runs.
-/
import Derived.Test.YticmnccpdpdaiaaGreatDoorNd
import Derived.Test.YticmnccpdpdaiaaGreatDoorN4c
import Derived.Test.YticmnccpdpdaiaaGreatDoorN5c

namespace Go.Proofs.YticmnccpdpdaiaaGreatDoor
open Go.RowKit Am

noncomputable def tbB : List (Nat × Ent) := [(486, fldE), (71, e2 cmpE), (480, e2 idxE), (333, e2 cntE), (138, e2 repE), (222, copyE), (123, strE),
  (143, cloE), (346, growE), (297, insECell), (72, insETable), (78, insEIndex)]
theorem tbB_ok : EntsOk Tryz.prog tbB := .cons fld_ent (.cons cmp_ent (.cons idx_ent (.cons cnt_ent (.cons rep_ent (.cons copy_ent (.cons str_ent (.cons clo_ent (.cons grow_ent (.cons ins_entCell (.cons ins_entTable (.cons ins_entIndex .nil)))))))))))
noncomputable def baseK : Kon := konOf tbB
theorem baseK_ok : KSound Tryz.prog (rowsK baseK []) := konOf_ok tbB_ok
end Go.Proofs.YticmnccpdpdaiaaGreatDoor
