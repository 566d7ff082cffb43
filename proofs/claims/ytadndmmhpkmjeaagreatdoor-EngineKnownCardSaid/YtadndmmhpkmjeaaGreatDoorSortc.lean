/-
  DERIVED: THE SHELF's CONTRACTS AT THIS DUMP, IN PLAIN WORDS (tools/lay-plain.mjs out of 'YtadndmmhpkmjeaaGreatDoorSort.lean', which tools/lay-shelf.mjs wrote): THE SAME DECLARATIONS UNDER THE SAME NAMES: 'import', 'namespace', 'open', 'def', 'theorem' AND NOTHING ELSE: no command of the shelf's: FOR A HAND-IN. Each laying: the table of numbers ('.._ren') and one theorem, a field a fact of the dump's own or the kernel's comparison; each contract: ONE APPLICATION.
-/
import Derived.Test.YtadndmmhpkmjeaaGreatDoorProg
import Derived.Shelf.SlGeneric
import Derived.Shelf.SlIterI.Nil
import Derived.Shelf.SortM.Plain
import Derived.Shelf.SortM.SortNone
import Derived.Ground.GgzProg
import Derived.Ground.SlgmProg

namespace Go.Proofs
open Go.Shelf
def Tryz.keysA_ren : Go.Shelf.Ren := ⟨fun | 7 => 189 | 10 => 294 | n => n, fun | 23 => 121 | 26 => 3 | 3 => 9 | 28 => 303 | 0 => 0 | 27 => 302 | 33 => 197 | 4 => 4 | n => n, fun | n => n⟩
theorem Tryz.keysA : Go.Proofs.SlLaysZI.n7 Tryz.prog Tryz.keysA_ren := {
  mixed := by kernel_rfl
  f7 := ⟨Tryz.f189.name, by decide, Tryz.func189.trans (congrArg some (by kernel_rfl))⟩
  f10 := ⟨Tryz.f294.name, by decide, Tryz.func294.trans (congrArg some (by kernel_rfl))⟩
  t0 := Tryz.underlying0
  a0 := Tryz.isAgg0
  z0 := Tryz.sizeOf0
  v0 := Tryz.zeroValue0
  t4 := Tryz.underlying4
  a4 := Tryz.isAgg4
  z4 := Tryz.sizeOf4
  v4 := Tryz.zeroValue4
  t23 := Tryz.underlying121
  a23 := Tryz.isAgg121
  z23 := Tryz.sizeOf121
  v23 := Tryz.zeroValue121
  t26 := Tryz.underlying3
  a26 := Tryz.isAgg3
  z26 := Tryz.sizeOf3
  v26 := Tryz.zeroValue3
  t27 := Tryz.underlying302
  a27 := Tryz.isAgg302
  z27 := Tryz.sizeOf302
  v27 := Tryz.zeroValue302
  t28 := Tryz.underlying303
  a28 := Tryz.isAgg303
  z28 := Tryz.sizeOf303
  v28 := Tryz.zeroValue303
  t33 := Tryz.underlying197
  a33 := Tryz.isAgg197
  z33 := Tryz.sizeOf197
  v33 := Tryz.zeroValue197 }
def Tryz.sortedA_ren : Go.Shelf.Ren := ⟨fun | 6 => 188 | 8 => 292 | 9 => 293 | 11 => 383 | 13 => 346 | 12 => 384 | 23 => 441 | 24 => 442 | 14 => 468 | 15 => 469 | 16 => 470 | 17 => 471 | 18 => 472 | 19 => 473 | 20 => 474 | 21 => 475 | 22 => 476 | 25 => 527 | 26 => 500 | 27 => 501 | 28 => 528 | 29 => 529 | 30 => 530 | 31 => 554 | n => n, fun | 26 => 3 | 28 => 303 | 24 => 30 | 0 => 0 | 3 => 3 | 37 => 209 | 48 => 106 | 50 => 38 | 4 => 4 | 40 => 551 | 39 => 550 | 45 => 170 | 5 => 5 | 9 => 9 | 51 => 606 | 55 => 609 | 57 => 650 | 58 => 651 | 33 => 197 | n => n, fun | n => n⟩
theorem Tryz.sortedA : Go.Proofs.SlLaysZI.n6 Tryz.prog Tryz.sortedA_ren := {
  mixed := by kernel_rfl
  f6 := ⟨Tryz.f188.name, by decide, Tryz.func188.trans (congrArg some (by kernel_rfl))⟩
  f8 := ⟨Tryz.f292.name, by decide, Tryz.func292.trans (congrArg some (by kernel_rfl))⟩
  f11 := ⟨Tryz.f383.name, by decide, Tryz.func383.trans (congrArg some (by kernel_rfl))⟩
  t0 := Tryz.underlying0
  a0 := Tryz.isAgg0
  z0 := Tryz.sizeOf0
  v0 := Tryz.zeroValue0
  t24 := Tryz.underlying30
  a24 := Tryz.isAgg30
  z24 := Tryz.sizeOf30
  v24 := Tryz.zeroValue30
  t26 := Tryz.underlying3
  a26 := Tryz.isAgg3
  z26 := Tryz.sizeOf3
  v26 := Tryz.zeroValue3
  t28 := Tryz.underlying303
  a28 := Tryz.isAgg303
  z28 := Tryz.sizeOf303
  v28 := Tryz.zeroValue303
  i26 := by kernel_rfl }
def Tryz.sortA_ren : Go.Shelf.Ren := ⟨fun | 5 => 293 | 8 => 346 | 7 => 384 | 19 => 441 | 20 => 442 | 10 => 468 | 11 => 469 | 12 => 470 | 13 => 471 | 14 => 472 | 15 => 473 | 16 => 474 | 17 => 475 | 18 => 476 | 30 => 527 | 31 => 500 | 32 => 501 | 33 => 528 | 34 => 529 | 35 => 530 | 40 => 554 | n => n, fun | 23 => 30 | 25 => 3 | 3 => 3 | 32 => 209 | 22 => 30 | 0 => 0 | 44 => 106 | 46 => 38 | 4 => 4 | 36 => 551 | 35 => 550 | 41 => 170 | 5 => 5 | 9 => 9 | 53 => 606 | 57 => 609 | 63 => 650 | 64 => 651 | n => n, fun | n => n⟩
theorem Tryz.sortA : Go.Proofs.SlLaysM.n5 Tryz.prog Tryz.sortA_ren := {
  mixed := by kernel_rfl
  f5 := ⟨Tryz.f293.name, by decide, Tryz.func293.trans (congrArg some (by kernel_rfl))⟩
  f7 := ⟨Tryz.f384.name, by decide, Tryz.func384.trans (congrArg some (by kernel_rfl))⟩
  f8 := Tryz.func346.trans (congrArg some (by kernel_rfl))
  f10 := ⟨Tryz.f468.name, by decide, Tryz.func468.trans (congrArg some (by kernel_rfl))⟩
  f11 := ⟨Tryz.f469.name, by decide, Tryz.func469.trans (congrArg some (by kernel_rfl))⟩
  f12 := ⟨Tryz.f470.name, by decide, Tryz.func470.trans (congrArg some (by kernel_rfl))⟩
  f13 := ⟨Tryz.f471.name, by decide, Tryz.func471.trans (congrArg some (by kernel_rfl))⟩
  f14 := ⟨Tryz.f472.name, by decide, Tryz.func472.trans (congrArg some (by kernel_rfl))⟩
  f15 := ⟨Tryz.f473.name, by decide, Tryz.func473.trans (congrArg some (by kernel_rfl))⟩
  f16 := ⟨Tryz.f474.name, by decide, Tryz.func474.trans (congrArg some (by kernel_rfl))⟩
  f17 := ⟨Tryz.f475.name, by decide, Tryz.func475.trans (congrArg some (by kernel_rfl))⟩
  f18 := ⟨Tryz.f476.name, by decide, Tryz.func476.trans (congrArg some (by kernel_rfl))⟩
  f19 := Tryz.func441.trans (congrArg some (by kernel_rfl))
  f20 := Tryz.func442.trans (congrArg some (by kernel_rfl))
  f30 := ⟨Tryz.f527.name, by decide, Tryz.func527.trans (congrArg some (by kernel_rfl))⟩
  f31 := Tryz.func500.trans (congrArg some (by kernel_rfl))
  f32 := Tryz.func501.trans (congrArg some (by kernel_rfl))
  f33 := ⟨Tryz.f528.name, by decide, Tryz.func528.trans (congrArg some (by kernel_rfl))⟩
  f34 := ⟨Tryz.f529.name, by decide, Tryz.func529.trans (congrArg some (by kernel_rfl))⟩
  f35 := ⟨Tryz.f530.name, by decide, Tryz.func530.trans (congrArg some (by kernel_rfl))⟩
  f40 := ⟨Tryz.f554.name, by decide, Tryz.func554.trans (congrArg some (by kernel_rfl))⟩
  t0 := Tryz.underlying0
  a0 := Tryz.isAgg0
  z0 := Tryz.sizeOf0
  v0 := Tryz.zeroValue0
  t3 := Tryz.underlying3
  a3 := Tryz.isAgg3
  z3 := Tryz.sizeOf3
  v3 := Tryz.zeroValue3
  t4 := Tryz.underlying4
  a4 := Tryz.isAgg4
  z4 := Tryz.sizeOf4
  v4 := Tryz.zeroValue4
  t5 := Tryz.underlying5
  a5 := Tryz.isAgg5
  z5 := Tryz.sizeOf5
  v5 := Tryz.zeroValue5
  t9 := Tryz.underlying9
  a9 := Tryz.isAgg9
  z9 := Tryz.sizeOf9
  v9 := Tryz.zeroValue9
  t22 := Tryz.underlying30
  a22 := Tryz.isAgg30
  z22 := Tryz.sizeOf30
  v22 := Tryz.zeroValue30
  t23 := Tryz.underlying30
  a23 := Tryz.isAgg30
  z23 := Tryz.sizeOf30
  v23 := Tryz.zeroValue30
  t25 := Tryz.underlying3
  a25 := Tryz.isAgg3
  z25 := Tryz.sizeOf3
  v25 := Tryz.zeroValue3
  t32 := Tryz.underlying209
  a32 := Tryz.isAgg209
  z32 := Tryz.sizeOf209
  v32 := Tryz.zeroValue209
  t35 := Tryz.underlying550
  a35 := Tryz.isAgg550
  z35 := Tryz.sizeOf550
  v35 := Tryz.zeroValue550
  t36 := Tryz.underlying551
  a36 := Tryz.isAgg551
  z36 := Tryz.sizeOf551
  v36 := Tryz.zeroValue551
  t41 := Tryz.underlying170
  a41 := Tryz.isAgg170
  z41 := Tryz.sizeOf170
  v41 := Tryz.zeroValue170
  t44 := Tryz.underlying106
  a44 := Tryz.isAgg106
  z44 := Tryz.sizeOf106
  v44 := Tryz.zeroValue106
  t46 := Tryz.underlying38
  a46 := Tryz.isAgg38
  z46 := Tryz.sizeOf38
  v46 := Tryz.zeroValue38
  t53 := Tryz.underlying606
  a53 := Tryz.isAgg606
  z53 := Tryz.sizeOf606
  v53 := Tryz.zeroValue606
  t57 := Tryz.underlying609
  a57 := Tryz.isAgg609
  z57 := Tryz.sizeOf609
  v57 := Tryz.zeroValue609
  t63 := Tryz.underlying650
  a63 := Tryz.isAgg650
  z63 := Tryz.sizeOf650
  v63 := Tryz.zeroValue650
  t64 := Tryz.underlying651
  a64 := Tryz.isAgg651
  z64 := Tryz.sizeOf651
  v64 := Tryz.zeroValue651 }
end Go.Proofs
