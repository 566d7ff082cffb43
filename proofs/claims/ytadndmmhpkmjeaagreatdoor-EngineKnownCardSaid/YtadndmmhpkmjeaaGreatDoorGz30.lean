/-
  Texts that the claim leans on, one behind the other: G30, G31.
-/
import Derived.Test.YtadndmmhpkmjeaaGreatDoorDac

/-
  Closed runs, the last group but one: what the engine runs ahead of the end.
-/
namespace Go.Proofs.YtadndmmhpkmjeaaGreatDoor
open Go.RowKit Am
set_option maxRecDepth 1000000
noncomputable def ab0 : DV := .agg (hb 64 0xd12ec4a0b6e3c03d00000000000000000000000001000000)
noncomputable def ab1 : DV := .agg (hb 64 0x20000000100000000000000000000000000000073656761702d6663)
noncomputable def ab2 : DV := .agg (hb 64 0x0)
noncomputable def ab3 : DV := .agg (hb 64 0xe6a401c340a6936900000000000000000200000002000000)
noncomputable def ab4 : DV := .agg (hb 64 0x282059454b205952414d495250202c2052454745544e4920612028207420454c424154204554414552430162023400000074030100000000000080020d010001)
noncomputable def ab5 : DV := .agg (hb 64 0x292029206120)
noncomputable def ab6 : DV := .agg (hb 64 0x76e776615da25d4e03000000050000000000000000000000667265746e756f63)
noncomputable def ab7 : DV := .agg (hb 64 0x330fd15951ff8e100000000000000000000000001000000)
noncomputable def ab8 : DV := .agg (hb 64 0x20000000200000000000000000000000000000073656761702d6663)
noncomputable def ab9 : DV := .agg (hb 64 0xc61c6a7ca920376600000000000000000000000002000000)
noncomputable def ab10 : DV := .agg (hb 64 0x6292029206120)
noncomputable def ab11 : DV := .agg (hb 64 0xecb397801f42e9a400000000000000000300000003000000)
noncomputable def ab12 : DV := .agg (hb 64 0x40101030002000000000000800209020101030001000000000000800209020001)
noncomputable def mn0 : List (DV × DV) := [((vi 1), ab0), ((vi 2), ab1), ((vi 3), ab2), ((vi 4), ab2), ((vi 5), ab2), ((vi 6), ab2), ((vi 7), ab2), ((vi 8), ab2), ((vi 9), ab2), ((vi 10), ab3), ((vi 11), ab4), ((vi 12), ab5), ((vi 13), ab2), ((vi 14), ab2), ((vi 15), ab2), ((vi 16), ab2), ((vi 17), ab2), ((vi 18), ab2), ((vi 0), ab6), ((vi 19), ab7), ((vi 20), ab8), ((vi 21), ab2), ((vi 22), ab2), ((vi 23), ab2), ((vi 24), ab2), ((vi 25), ab2), ((vi 26), ab2), ((vi 27), ab2), ((vi 28), ab9), ((vi 29), ab4), ((vi 30), ab10), ((vi 31), ab2), ((vi 32), ab2), ((vi 33), ab2), ((vi 34), ab2), ((vi 35), ab2), ((vi 36), ab2), ((vi 37), ab11), ((vi 38), ab12), ((vi 39), ab2), ((vi 40), ab2), ((vi 41), ab2), ((vi 42), ab2), ((vi 43), ab2), ((vi 44), ab2), ((vi 45), ab2)]
noncomputable def yz0 : List UInt8 := hx 112 0x4b4341424c4c4f52203b74204d4f524620292a28544e554f43205443454c4553203b73204f54204b4341424c4c4f52203b293328205345554c4156202961282074204f544e4920545245534e49203b7320544e494f5045564153203b74204d4f5246204554454c4544203b4e49474542
noncomputable def yz1 : List UInt8 := hx 512 0x20000000100000000000000000000000000000073656761702d6663
noncomputable def yz2 : List UInt8 := hx 512 0x292029206120282059454b205952414d495250202c2052454745544e4920612028207420454c424154204554414552430162023400000074030100000000000080020d010001
noncomputable def yz3 : List UInt8 := hx 512 0x20000000200000000000000000000000000000073656761702d6663
noncomputable def yz4 : List UInt8 := hx 512 0x6292029206120282059454b205952414d495250202c2052454745544e4920612028207420454c424154204554414552430162023400000074030100000000000080020d010001
noncomputable def yz5 : List UInt8 := hx 512 0x40101030002000000000000800209020101030001000000000000800209020001
noncomputable def q538 : Row := ⟨9, [(.ptr 0 0), (ds yz0)], [.box 55 [(.ptr 1 0), (db false), (.d (.lst 0 [] true)), (.sl 2 4 0 2 none), (.sl 2 4 0 2 none)], .box 85 [(.ptr 3 0), (.d .nilp), (.d (.lst 0 [] true)), (di 0)], .rar 485 [(ds (hx 1 0x74)), (.sl 4 3 0 1 none), (.d (.lst 0 [] true)), (.sl 5 3 0 1 (some 1)), (ds (hx 1 0x74)), (.sl 6 3 0 1 none), (.d (.lst 0 [] true)), (.sl 7 3 0 1 (some 1))], .box 110 [(.ptr 8 0), (.d (.int .u64 (.ofNat 0))), (di 5), (di 3), (db true), (.sl 9 3 0 5 none), (.d (.int .u32 (.ofNat 2766750239))), (.d (.int .u32 (.ofNat 2157425644))), (db false), (db false)], .rar 144 [(.d (.int .u8 (.ofNat 1))), (di 1), (ds [])], .rar 144 [(.d (.int .u8 (.ofNat 1))), (di 1), (ds [])], .rar 144 [(.d (.int .u8 (.ofNat 1))), (di 2), (ds [])], .rar 144 [(.d (.int .u8 (.ofNat 1))), (di 2), (ds [])], .box 63 [(di 0), (.d .nilm), (di 46), (.map 10), (di 0), (.d .nilm), (di 0), (.d .nilm), (di 0), (.d .nilm), (di 0), (.d .nilm), (di 0), (.d .nilm), (di 0), (.d .nilm), (di 0), (.d .nilm), (di 46), (.map 10), (di 0), (.d .nilm), (di 0), (.d .nilm), (di 0), (.d .nilm), (di 0), (.d .nilm), (di 0), (.d .nilm), (di 0), (.d .nilm), (.d (.lst 0 [] true)), (.map 11), (di 8), (.d (.int .i64 (.negSucc 0))), (db false)], .rar 118 [(di 1), (di 0), (ds yz1), (di 2), (di 2), (ds yz2), (di 1), (di 0), (ds yz3), (di 2), (di 0), (ds yz4), (di 3), (di 3), (ds yz5)], .map mn0, .map []], (.sl 12 5 0 7 none), [.box 55 [(.ptr 1 0), (db false), (.sl 13 2 0 1 none), (.sl 14 4 0 2 (some 2)), (.sl 2 4 0 2 none)], .box 85 [(.ptr 3 0), (.d .nilp), (.d (.lst 0 [] true)), (di 0)], .rar 485 [(ds (hx 1 0x74)), (.sl 4 3 0 1 none), (.d (.lst 0 [] true)), (.sl 5 3 0 1 (some 1)), (ds (hx 1 0x74)), (.sl 6 3 0 1 none), (.d (.lst 0 [] true)), (.sl 7 3 0 1 (some 1))], .box 110 [(.ptr 8 0), (.d (.int .u64 (.ofNat 0))), (di 5), (di 3), (db true), (.sl 9 3 0 5 none), (.d (.int .u32 (.ofNat 2766750239))), (.d (.int .u32 (.ofNat 2157425644))), (db false), (db false)], .rar 144 [(.d (.int .u8 (.ofNat 1))), (di 1), (ds [])], .rar 144 [(.d (.int .u8 (.ofNat 1))), (di 1), (ds [])], .rar 144 [(.d (.int .u8 (.ofNat 1))), (di 2), (ds [])], .rar 144 [(.d (.int .u8 (.ofNat 1))), (di 2), (ds [])], .box 63 [(di 0), (.d .nilm), (di 46), (.map 10), (di 0), (.d .nilm), (di 0), (.d .nilm), (di 0), (.d .nilm), (di 0), (.d .nilm), (di 0), (.d .nilm), (di 0), (.d .nilm), (di 0), (.d .nilm), (di 46), (.map 10), (di 0), (.d .nilm), (di 0), (.d .nilm), (di 0), (.d .nilm), (di 0), (.d .nilm), (di 0), (.d .nilm), (di 0), (.d .nilm), (.d (.lst 0 [] true)), (.map 11), (di 8), (.d (.int .i64 (.negSucc 0))), (db false)], .rar 118 [(di 1), (di 0), (ds yz1), (di 2), (di 2), (ds yz2), (di 1), (di 0), (ds yz3), (di 2), (di 0), (ds yz4), (di 3), (di 3), (ds yz5)], .map mn0, .map [], .rar 37 [(di 0), (di 0), (di 0), (.d (.lst 0 [] true)), (.d (.lst 0 [] true)), (di 0), (di 0), (di 2), (.d (.lst 0 [] true)), (.d (.lst 0 [] true)), (di 0), (di 0), (di 0), (.d (.lst 0 [] true)), (.d (.lst 0 [] true)), (di 0), (di 0), (di 1), (.d (.lst 0 [] true)), (.d (.lst 0 [] true)), (di 0), (di 0), (di 0), (.d (.lst 0 [] true)), (.d (.lst 0 [] true)), (di 0), (di 0), (di 1), (.sl 15 1 0 1 none), (.sl 16 1 0 1 none), (di 0), (di 0), (di 0), (.d (.lst 0 [] true)), (.d (.lst 0 [] true))], .rar 157 [(ds (hx 1 0x73)), (di 2)], .rar 485 [(ds (hx 1 0x74)), (.sl 17 3 0 1 none), (.sl 18 3 0 1 none), (.d (.lst 0 [] true)), (ds (hx 1 0x74)), (.sl 19 3 0 1 none), (.sl 20 3 0 1 none), (.d (.lst 0 [] true)), (ds (hx 1 0x74)), (.sl 21 3 0 1 none), (.d (.lst 0 [] true)), (.sl 22 3 0 1 (some 1))], .rar 9 [(ds [])], .rar 179 [(.sl 23 3 0 1 none)], .rar 144 [(.d (.int .u8 (.ofNat 1))), (di 1), (ds [])], .rar 144 [(.d (.int .u8 (.ofNat 1))), (di 1), (ds [])], .rar 144 [(.d (.int .u8 (.ofNat 1))), (di 2), (ds [])], .rar 144 [(.d (.int .u8 (.ofNat 1))), (di 2), (ds [])], .rar 144 [(.d (.int .u8 (.ofNat 1))), (di 3), (ds [])], .rar 144 [(.d (.int .u8 (.ofNat 1))), (di 3), (ds [])], .rar 144 [(.d (.int .u8 (.ofNat 1))), (di 0), (ds [])]]⟩
noncomputable def l538x : List Row := q538 :: l624
theorem g30 : (okRow (rowsK baseK l624) 0x80100000200020200100002000081000008000000000020000100400080000008000004b04002004400000000441049020800400040a20000800004001060200054102859602c0 q538 && true) = true := by kernel_rfl
end Go.Proofs.YtadndmmhpkmjeaaGreatDoor

/-
  Closed runs, the last group: the law itself.
-/
namespace Go.Proofs.YtadndmmhpkmjeaaGreatDoor
open Go.RowKit Am
set_option maxRecDepth 1000000
theorem g31 : (okRow (rowsK baseK l538x) 0x80100000200020200100002000081000008000000000020000100400080000008000004b04002004400000000441049020800400040a20000800004001060200054102859602c0 q624 && true) = true := by kernel_rfl
end Go.Proofs.YtadndmmhpkmjeaaGreatDoor
