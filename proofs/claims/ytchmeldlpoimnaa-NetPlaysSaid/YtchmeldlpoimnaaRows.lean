/-
  No cell of these rows narrows 'for every input' (looked for: loops, veiled, ifaces, maps, wideKeys, modest, calm, conditions, laid).
  DERIVED. THE GIVEN ROWS OF THIS SEAT. 12 by the template 'for every input the law returns true; each argument reads behind the call as it read before'; 0 by the template 'total and deterministic' (their statements: YtchmeldlpoimnaaTotals.lean).
  GIVEN WITH THE SEED: the statements are not yours to turn. If you find one false, say at which input.
  Laid BY PROGRAM, IN A SANDBOX (cutbox-rows.mjs): the forced cells as the released guide's own fill.sh prints them over the translation a80f849e5b9eccf4… (all of the seat's roots in one cut). By AI agents, Wed Nov 11 2026. No macro, syntax, notation, axiom, sorry.
-/
import Derived.Test.YtchmeldlpoimnaaChecked
import GoSem.Claim
import GoSem.ClaimJoined
import GoSem.ClaimMapViews
import Derived.JoinedTies
import Derived.KernelRfl
namespace Go.Proofs.Ytchmeldlpoimnaa
/- THE CELL 'sum', in the pinned program and in every row, IS THE sha256 OF THE DUMP (.gsa) THAT YtchmeldlpoimnaaProg.lean LOADS. Nothing in Lean hashes anything: it is a label: what it is worth is what the hold of that sum in a sandbox is worth. -/
noncomputable def Try.pinned : Pinned := { name := "ytchmeldlpoimnaa", sum := "a80f849e5b9eccf48e075bd9c99494901832e775ee695fe74329cbc13c361810", checked := Try.checked }
namespace Rows
def none {H : Type} : Left H := { results := [], args := [] }

/-- 'counterfoillaw24.RebaseKnown': WHATEVER THE INPUT: true; the input reads as it did. -/
def rebaseKnownSpec : ChangeSpec := { name := "rebaseKnown", fn := fun _ => fun
  | [] => { results := [.lit (.bool true)], args := [] }
  | _ => none }
def rebaseKnownRow : OpenClaim := { program := "ytchmeldlpoimnaa", sum := "a80f849e5b9eccf48e075bd9c99494901832e775ee695fe74329cbc13c361810", func := "counterfoil/counterfoillaw24.RebaseKnown", spec := "rebaseKnown", inPlace := ["internal/abi.NoEscape", "internal/bytealg.abigen_runtime_cmpstring"], unfollowed := true, recurses := true, apart := false }
def RebaseKnownSaid : Prop := rebaseKnownRow.holds Try.pinned (OpenSpec.ofChange rebaseKnownSpec)

/-- ITS FALSE NEIGHBOUR: 'it returns false'. Refute it at one input. -/
def rebaseKnownWrong : ChangeSpec := { name := "rebaseKnown", fn := fun _ => fun
  | [] => { results := [.lit (.bool false)], args := [] }
  | _ => none }
def RebaseKnownWrongFalsely : Prop := rebaseKnownRow.holds Try.pinned (OpenSpec.ofChange rebaseKnownWrong)

/-- 'counterfoillaw24.RebaseUpon': WHATEVER THE INPUT: true; the input reads as it did. -/
def rebaseUponSpec : ChangeSpec := { name := "rebaseUpon", fn := fun _ => fun
  | [d1, d2, d3] => { results := [.lit (.bool true)], args := [d1, d2, d3] }
  | _ => none }
def rebaseUponRow : OpenClaim := { program := "ytchmeldlpoimnaa", sum := "a80f849e5b9eccf48e075bd9c99494901832e775ee695fe74329cbc13c361810", func := "counterfoil/counterfoillaw24.RebaseUpon", spec := "rebaseUpon", inPlace := ["internal/abi.NoEscape", "internal/bytealg.abigen_runtime_cmpstring"], unfollowed := true, recurses := true, apart := false }
def RebaseUponSaid : Prop := rebaseUponRow.holds Try.pinned (OpenSpec.ofChange rebaseUponSpec)

/-- ITS FALSE NEIGHBOUR: 'it returns false'. Refute it at one input. -/
def rebaseUponWrong : ChangeSpec := { name := "rebaseUpon", fn := fun _ => fun
  | [d1, d2, d3] => { results := [.lit (.bool false)], args := [d1, d2, d3] }
  | _ => none }
def RebaseUponWrongFalsely : Prop := rebaseUponRow.holds Try.pinned (OpenSpec.ofChange rebaseUponWrong)

/-- 'counterfoillaw10.NodeKnown': WHATEVER THE INPUT: true; the input reads as it did. -/
def nodeKnownSpec : ChangeSpec := { name := "nodeKnown", fn := fun _ => fun
  | [] => { results := [.lit (.bool true)], args := [] }
  | _ => none }
def nodeKnownRow : OpenClaim := { program := "ytchmeldlpoimnaa", sum := "a80f849e5b9eccf48e075bd9c99494901832e775ee695fe74329cbc13c361810", func := "counterfoil/counterfoillaw10.NodeKnown", spec := "nodeKnown", inPlace := ["internal/abi.NoEscape", "internal/bytealg.MakeNoZero"], unfollowed := true, recurses := true, apart := false }
def NodeKnownSaid : Prop := nodeKnownRow.holds Try.pinned (OpenSpec.ofChange nodeKnownSpec)

/-- ITS FALSE NEIGHBOUR: 'it returns false'. Refute it at one input. -/
def nodeKnownWrong : ChangeSpec := { name := "nodeKnown", fn := fun _ => fun
  | [] => { results := [.lit (.bool false)], args := [] }
  | _ => none }
def NodeKnownWrongFalsely : Prop := nodeKnownRow.holds Try.pinned (OpenSpec.ofChange nodeKnownWrong)

/-- 'counterfoillaw10.NodePuts': WHATEVER THE INPUT: true; the input reads as it did. -/
def nodePutsSpec : ChangeSpec := { name := "nodePuts", fn := fun _ => fun
  | [d] => { results := [.lit (.bool true)], args := [d] }
  | _ => none }
def nodePutsRow : OpenClaim := { program := "ytchmeldlpoimnaa", sum := "a80f849e5b9eccf48e075bd9c99494901832e775ee695fe74329cbc13c361810", func := "counterfoil/counterfoillaw10.NodePuts", spec := "nodePuts", inPlace := ["internal/abi.NoEscape", "internal/bytealg.MakeNoZero"], unfollowed := true, recurses := true, apart := false }
def NodePutsSaid : Prop := nodePutsRow.holds Try.pinned (OpenSpec.ofChange nodePutsSpec)

/-- ITS FALSE NEIGHBOUR: 'it returns false'. Refute it at one input. -/
def nodePutsWrong : ChangeSpec := { name := "nodePuts", fn := fun _ => fun
  | [d] => { results := [.lit (.bool false)], args := [d] }
  | _ => none }
def NodePutsWrongFalsely : Prop := nodePutsRow.holds Try.pinned (OpenSpec.ofChange nodePutsWrong)

/-- 'counterfoillaw10.NodeTakes': WHATEVER THE INPUT: true; the input reads as it did. -/
def nodeTakesSpec : ChangeSpec := { name := "nodeTakes", fn := fun _ => fun
  | [d] => { results := [.lit (.bool true)], args := [d] }
  | _ => none }
def nodeTakesRow : OpenClaim := { program := "ytchmeldlpoimnaa", sum := "a80f849e5b9eccf48e075bd9c99494901832e775ee695fe74329cbc13c361810", func := "counterfoil/counterfoillaw10.NodeTakes", spec := "nodeTakes", inPlace := ["internal/abi.NoEscape", "internal/bytealg.MakeNoZero"], unfollowed := true, recurses := true, apart := false }
def NodeTakesSaid : Prop := nodeTakesRow.holds Try.pinned (OpenSpec.ofChange nodeTakesSpec)

/-- ITS FALSE NEIGHBOUR: 'it returns false'. Refute it at one input. -/
def nodeTakesWrong : ChangeSpec := { name := "nodeTakes", fn := fun _ => fun
  | [d] => { results := [.lit (.bool false)], args := [d] }
  | _ => none }
def NodeTakesWrongFalsely : Prop := nodeTakesRow.holds Try.pinned (OpenSpec.ofChange nodeTakesWrong)

/-- 'counterfoillaw10.NodeBack': WHATEVER THE INPUT: true; the input reads as it did. -/
def nodeBackSpec : ChangeSpec := { name := "nodeBack", fn := fun _ => fun
  | [d1, d2] => { results := [.lit (.bool true)], args := [d1, d2] }
  | _ => none }
def nodeBackRow : OpenClaim := { program := "ytchmeldlpoimnaa", sum := "a80f849e5b9eccf48e075bd9c99494901832e775ee695fe74329cbc13c361810", func := "counterfoil/counterfoillaw10.NodeBack", spec := "nodeBack", inPlace := ["internal/abi.NoEscape", "internal/bytealg.MakeNoZero"], unfollowed := true, recurses := true, apart := false }
def NodeBackSaid : Prop := nodeBackRow.holds Try.pinned (OpenSpec.ofChange nodeBackSpec)

/-- ITS FALSE NEIGHBOUR: 'it returns false'. Refute it at one input. -/
def nodeBackWrong : ChangeSpec := { name := "nodeBack", fn := fun _ => fun
  | [d1, d2] => { results := [.lit (.bool false)], args := [d1, d2] }
  | _ => none }
def NodeBackWrongFalsely : Prop := nodeBackRow.holds Try.pinned (OpenSpec.ofChange nodeBackWrong)

/-- 'counterfoillaw10.NodeRoom': WHATEVER THE INPUT: true; the input reads as it did. -/
def nodeRoomSpec : ChangeSpec := { name := "nodeRoom", fn := fun _ => fun
  | [d] => { results := [.lit (.bool true)], args := [d] }
  | _ => none }
def nodeRoomRow : OpenClaim := { program := "ytchmeldlpoimnaa", sum := "a80f849e5b9eccf48e075bd9c99494901832e775ee695fe74329cbc13c361810", func := "counterfoil/counterfoillaw10.NodeRoom", spec := "nodeRoom", inPlace := ["internal/abi.NoEscape", "internal/bytealg.MakeNoZero"], unfollowed := true, recurses := true, apart := false }
def NodeRoomSaid : Prop := nodeRoomRow.holds Try.pinned (OpenSpec.ofChange nodeRoomSpec)

/-- ITS FALSE NEIGHBOUR: 'it returns false'. Refute it at one input. -/
def nodeRoomWrong : ChangeSpec := { name := "nodeRoom", fn := fun _ => fun
  | [d] => { results := [.lit (.bool false)], args := [d] }
  | _ => none }
def NodeRoomWrongFalsely : Prop := nodeRoomRow.holds Try.pinned (OpenSpec.ofChange nodeRoomWrong)

/-- 'counterfoillaw10.NodeSizes': WHATEVER THE INPUT: true; the input reads as it did. -/
def nodeSizesSpec : ChangeSpec := { name := "nodeSizes", fn := fun _ => fun
  | [d] => { results := [.lit (.bool true)], args := [d] }
  | _ => none }
def nodeSizesRow : OpenClaim := { program := "ytchmeldlpoimnaa", sum := "a80f849e5b9eccf48e075bd9c99494901832e775ee695fe74329cbc13c361810", func := "counterfoil/counterfoillaw10.NodeSizes", spec := "nodeSizes", inPlace := ["internal/abi.NoEscape", "internal/bytealg.MakeNoZero"], unfollowed := true, recurses := true, apart := false }
def NodeSizesSaid : Prop := nodeSizesRow.holds Try.pinned (OpenSpec.ofChange nodeSizesSpec)

/-- ITS FALSE NEIGHBOUR: 'it returns false'. Refute it at one input. -/
def nodeSizesWrong : ChangeSpec := { name := "nodeSizes", fn := fun _ => fun
  | [d] => { results := [.lit (.bool false)], args := [d] }
  | _ => none }
def NodeSizesWrongFalsely : Prop := nodeSizesRow.holds Try.pinned (OpenSpec.ofChange nodeSizesWrong)

/-- 'counterfoillaw25.NetTells': WHATEVER THE INPUT: true; the input reads as it did. -/
def netTellsSpec : ChangeSpec := { name := "netTells", fn := fun _ => fun
  | [d] => { results := [.lit (.bool true)], args := [d] }
  | _ => none }
def netTellsRow : OpenClaim := { program := "ytchmeldlpoimnaa", sum := "a80f849e5b9eccf48e075bd9c99494901832e775ee695fe74329cbc13c361810", func := "counterfoil/counterfoillaw25.NetTells", spec := "netTells", unfollowed := true, recurses := true, apart := false }
def NetTellsSaid : Prop := netTellsRow.holds Try.pinned (OpenSpec.ofChange netTellsSpec)

/-- ITS FALSE NEIGHBOUR: 'it returns false'. Refute it at one input. -/
def netTellsWrong : ChangeSpec := { name := "netTells", fn := fun _ => fun
  | [d] => { results := [.lit (.bool false)], args := [d] }
  | _ => none }
def NetTellsWrongFalsely : Prop := netTellsRow.holds Try.pinned (OpenSpec.ofChange netTellsWrong)

/-- 'counterfoillaw25.NetPlays': WHATEVER THE INPUT: true; the input reads as it did. -/
def netPlaysSpec : ChangeSpec := { name := "netPlays", fn := fun _ => fun
  | [d] => { results := [.lit (.bool true)], args := [d] }
  | _ => none }
def netPlaysRow : OpenClaim := { program := "ytchmeldlpoimnaa", sum := "a80f849e5b9eccf48e075bd9c99494901832e775ee695fe74329cbc13c361810", func := "counterfoil/counterfoillaw25.NetPlays", spec := "netPlays", unfollowed := true, recurses := true, apart := false }
def NetPlaysSaid : Prop := netPlaysRow.holds Try.pinned (OpenSpec.ofChange netPlaysSpec)

/-- ITS FALSE NEIGHBOUR: 'it returns false'. Refute it at one input. -/
def netPlaysWrong : ChangeSpec := { name := "netPlays", fn := fun _ => fun
  | [d] => { results := [.lit (.bool false)], args := [d] }
  | _ => none }
def NetPlaysWrongFalsely : Prop := netPlaysRow.holds Try.pinned (OpenSpec.ofChange netPlaysWrong)

/-- 'counterfoillaw24.RebaseBoth': WHATEVER THE INPUT: true; the input reads as it did. -/
def rebaseBothSpec : ChangeSpec := { name := "rebaseBoth", fn := fun _ => fun
  | [d1, d2, d3] => { results := [.lit (.bool true)], args := [d1, d2, d3] }
  | _ => none }
def rebaseBothRow : OpenClaim := { program := "ytchmeldlpoimnaa", sum := "a80f849e5b9eccf48e075bd9c99494901832e775ee695fe74329cbc13c361810", func := "counterfoil/counterfoillaw24.RebaseBoth", spec := "rebaseBoth", inPlace := ["internal/abi.NoEscape", "internal/bytealg.abigen_runtime_cmpstring"], unfollowed := true, recurses := true, apart := false }
def RebaseBothSaid : Prop := rebaseBothRow.holds Try.pinned (OpenSpec.ofChange rebaseBothSpec)

/-- ITS FALSE NEIGHBOUR: 'it returns false'. Refute it at one input. -/
def rebaseBothWrong : ChangeSpec := { name := "rebaseBoth", fn := fun _ => fun
  | [d1, d2, d3] => { results := [.lit (.bool false)], args := [d1, d2, d3] }
  | _ => none }
def RebaseBothWrongFalsely : Prop := rebaseBothRow.holds Try.pinned (OpenSpec.ofChange rebaseBothWrong)

/-- 'counterfoillaw22.ChangeTakes': WHATEVER THE INPUT: true; the input reads as it did. -/
def changeTakesSpec : ChangeSpec := { name := "changeTakes", fn := fun _ => fun
  | [d] => { results := [.lit (.bool true)], args := [d] }
  | _ => none }
def changeTakesRow : OpenClaim := { program := "ytchmeldlpoimnaa", sum := "a80f849e5b9eccf48e075bd9c99494901832e775ee695fe74329cbc13c361810", func := "counterfoil/counterfoillaw22.ChangeTakes", spec := "changeTakes", inPlace := ["internal/abi.NoEscape", "internal/bytealg.abigen_runtime_cmpstring"], unfollowed := true, recurses := true, apart := false }
def ChangeTakesSaid : Prop := changeTakesRow.holds Try.pinned (OpenSpec.ofChange changeTakesSpec)

/-- ITS FALSE NEIGHBOUR: 'it returns false'. Refute it at one input. -/
def changeTakesWrong : ChangeSpec := { name := "changeTakes", fn := fun _ => fun
  | [d] => { results := [.lit (.bool false)], args := [d] }
  | _ => none }
def ChangeTakesWrongFalsely : Prop := changeTakesRow.holds Try.pinned (OpenSpec.ofChange changeTakesWrong)

/- THE SECOND FORM. 'bulk': how many values and letters a reading holds, each counted each time it is reached (what is shared counts as often as it is met; a slice's spare places count too). A statement '..UptoSaid' is the law's where the arguments, and the package variables that the reading takes, are together of bulk at most 1048576: NARROWER than '..Said'. Prove '..Said' where nothing that the law and all that it calls make is longer than what came in: it says more and counts as full. Else prove '..UptoSaid'. A law counts once. -/
mutual
def uptoBulk {H : Type} : DataW H → Nat
  | .lit (.string bytes) => bytes.length + 1
  | .lit _ => 1
  | .nil => 1
  | .ptr d => uptoBulk d + 1
  | .slice elems spare => uptoBulkAll elems + uptoBulkAll spare + 1
  | .agg parts => uptoBulkAll parts + 1
  | .iface _ d => uptoBulk d + 1
  | .map entries => uptoBulkEntries entries + 1
  | .held _ => 1
def uptoBulkAll {H : Type} : List (DataW H) → Nat
  | [] => 0
  | d :: r => uptoBulk d + uptoBulkAll r
def uptoBulkEntries {H : Type} : List (Lit × DataW H) → Nat
  | [] => 0
  | x :: r => uptoBulkEntry x + uptoBulkEntries r
def uptoBulkEntry {H : Type} : Lit × DataW H → Nat
  | (.string bytes, d) => bytes.length + uptoBulk d + 1
  | (_, d) => uptoBulk d + 1
 end
def uptoSmall : (H : Type) → List (DataW H) → Bool := fun _ ds => decide (uptoBulkAll ds ≤ 1048576)
def OpenSpec.upto (s : _root_.Go.ChangeSpec) : _root_.Go.OpenSpec := { _root_.Go.OpenSpec.ofChange s with cond := some uptoSmall }

/-- 'counterfoillaw24.RebaseKnown', WHERE WHAT IT READS IS OF BULK AT MOST 1048576: true; the input reads as it did. -/
def rebaseKnownUptoRow : OpenClaim := { program := "ytchmeldlpoimnaa", sum := "a80f849e5b9eccf48e075bd9c99494901832e775ee695fe74329cbc13c361810", func := "counterfoil/counterfoillaw24.RebaseKnown", spec := "rebaseKnown", inPlace := ["internal/abi.NoEscape", "internal/bytealg.abigen_runtime_cmpstring"], unfollowed := true, recurses := true, apart := false, narrowed := true }
def RebaseKnownUptoSaid : Prop := rebaseKnownUptoRow.holds Try.pinned (OpenSpec.upto rebaseKnownSpec)

/-- 'counterfoillaw24.RebaseUpon', WHERE WHAT IT READS IS OF BULK AT MOST 1048576: true; the input reads as it did. -/
def rebaseUponUptoRow : OpenClaim := { program := "ytchmeldlpoimnaa", sum := "a80f849e5b9eccf48e075bd9c99494901832e775ee695fe74329cbc13c361810", func := "counterfoil/counterfoillaw24.RebaseUpon", spec := "rebaseUpon", inPlace := ["internal/abi.NoEscape", "internal/bytealg.abigen_runtime_cmpstring"], unfollowed := true, recurses := true, apart := false, narrowed := true }
def RebaseUponUptoSaid : Prop := rebaseUponUptoRow.holds Try.pinned (OpenSpec.upto rebaseUponSpec)

/-- 'counterfoillaw10.NodeKnown', WHERE WHAT IT READS IS OF BULK AT MOST 1048576: true; the input reads as it did. -/
def nodeKnownUptoRow : OpenClaim := { program := "ytchmeldlpoimnaa", sum := "a80f849e5b9eccf48e075bd9c99494901832e775ee695fe74329cbc13c361810", func := "counterfoil/counterfoillaw10.NodeKnown", spec := "nodeKnown", inPlace := ["internal/abi.NoEscape", "internal/bytealg.MakeNoZero"], unfollowed := true, recurses := true, apart := false, narrowed := true }
def NodeKnownUptoSaid : Prop := nodeKnownUptoRow.holds Try.pinned (OpenSpec.upto nodeKnownSpec)

/-- 'counterfoillaw10.NodePuts', WHERE WHAT IT READS IS OF BULK AT MOST 1048576: true; the input reads as it did. -/
def nodePutsUptoRow : OpenClaim := { program := "ytchmeldlpoimnaa", sum := "a80f849e5b9eccf48e075bd9c99494901832e775ee695fe74329cbc13c361810", func := "counterfoil/counterfoillaw10.NodePuts", spec := "nodePuts", inPlace := ["internal/abi.NoEscape", "internal/bytealg.MakeNoZero"], unfollowed := true, recurses := true, apart := false, narrowed := true }
def NodePutsUptoSaid : Prop := nodePutsUptoRow.holds Try.pinned (OpenSpec.upto nodePutsSpec)

/-- 'counterfoillaw10.NodeTakes', WHERE WHAT IT READS IS OF BULK AT MOST 1048576: true; the input reads as it did. -/
def nodeTakesUptoRow : OpenClaim := { program := "ytchmeldlpoimnaa", sum := "a80f849e5b9eccf48e075bd9c99494901832e775ee695fe74329cbc13c361810", func := "counterfoil/counterfoillaw10.NodeTakes", spec := "nodeTakes", inPlace := ["internal/abi.NoEscape", "internal/bytealg.MakeNoZero"], unfollowed := true, recurses := true, apart := false, narrowed := true }
def NodeTakesUptoSaid : Prop := nodeTakesUptoRow.holds Try.pinned (OpenSpec.upto nodeTakesSpec)

/-- 'counterfoillaw10.NodeBack', WHERE WHAT IT READS IS OF BULK AT MOST 1048576: true; the input reads as it did. -/
def nodeBackUptoRow : OpenClaim := { program := "ytchmeldlpoimnaa", sum := "a80f849e5b9eccf48e075bd9c99494901832e775ee695fe74329cbc13c361810", func := "counterfoil/counterfoillaw10.NodeBack", spec := "nodeBack", inPlace := ["internal/abi.NoEscape", "internal/bytealg.MakeNoZero"], unfollowed := true, recurses := true, apart := false, narrowed := true }
def NodeBackUptoSaid : Prop := nodeBackUptoRow.holds Try.pinned (OpenSpec.upto nodeBackSpec)

/-- 'counterfoillaw10.NodeRoom', WHERE WHAT IT READS IS OF BULK AT MOST 1048576: true; the input reads as it did. -/
def nodeRoomUptoRow : OpenClaim := { program := "ytchmeldlpoimnaa", sum := "a80f849e5b9eccf48e075bd9c99494901832e775ee695fe74329cbc13c361810", func := "counterfoil/counterfoillaw10.NodeRoom", spec := "nodeRoom", inPlace := ["internal/abi.NoEscape", "internal/bytealg.MakeNoZero"], unfollowed := true, recurses := true, apart := false, narrowed := true }
def NodeRoomUptoSaid : Prop := nodeRoomUptoRow.holds Try.pinned (OpenSpec.upto nodeRoomSpec)

/-- 'counterfoillaw10.NodeSizes', WHERE WHAT IT READS IS OF BULK AT MOST 1048576: true; the input reads as it did. -/
def nodeSizesUptoRow : OpenClaim := { program := "ytchmeldlpoimnaa", sum := "a80f849e5b9eccf48e075bd9c99494901832e775ee695fe74329cbc13c361810", func := "counterfoil/counterfoillaw10.NodeSizes", spec := "nodeSizes", inPlace := ["internal/abi.NoEscape", "internal/bytealg.MakeNoZero"], unfollowed := true, recurses := true, apart := false, narrowed := true }
def NodeSizesUptoSaid : Prop := nodeSizesUptoRow.holds Try.pinned (OpenSpec.upto nodeSizesSpec)

/-- 'counterfoillaw25.NetTells', WHERE WHAT IT READS IS OF BULK AT MOST 1048576: true; the input reads as it did. -/
def netTellsUptoRow : OpenClaim := { program := "ytchmeldlpoimnaa", sum := "a80f849e5b9eccf48e075bd9c99494901832e775ee695fe74329cbc13c361810", func := "counterfoil/counterfoillaw25.NetTells", spec := "netTells", unfollowed := true, recurses := true, apart := false, narrowed := true }
def NetTellsUptoSaid : Prop := netTellsUptoRow.holds Try.pinned (OpenSpec.upto netTellsSpec)

/-- 'counterfoillaw25.NetPlays', WHERE WHAT IT READS IS OF BULK AT MOST 1048576: true; the input reads as it did. -/
def netPlaysUptoRow : OpenClaim := { program := "ytchmeldlpoimnaa", sum := "a80f849e5b9eccf48e075bd9c99494901832e775ee695fe74329cbc13c361810", func := "counterfoil/counterfoillaw25.NetPlays", spec := "netPlays", unfollowed := true, recurses := true, apart := false, narrowed := true }
def NetPlaysUptoSaid : Prop := netPlaysUptoRow.holds Try.pinned (OpenSpec.upto netPlaysSpec)

/-- 'counterfoillaw24.RebaseBoth', WHERE WHAT IT READS IS OF BULK AT MOST 1048576: true; the input reads as it did. -/
def rebaseBothUptoRow : OpenClaim := { program := "ytchmeldlpoimnaa", sum := "a80f849e5b9eccf48e075bd9c99494901832e775ee695fe74329cbc13c361810", func := "counterfoil/counterfoillaw24.RebaseBoth", spec := "rebaseBoth", inPlace := ["internal/abi.NoEscape", "internal/bytealg.abigen_runtime_cmpstring"], unfollowed := true, recurses := true, apart := false, narrowed := true }
def RebaseBothUptoSaid : Prop := rebaseBothUptoRow.holds Try.pinned (OpenSpec.upto rebaseBothSpec)

/-- 'counterfoillaw22.ChangeTakes', WHERE WHAT IT READS IS OF BULK AT MOST 1048576: true; the input reads as it did. -/
def changeTakesUptoRow : OpenClaim := { program := "ytchmeldlpoimnaa", sum := "a80f849e5b9eccf48e075bd9c99494901832e775ee695fe74329cbc13c361810", func := "counterfoil/counterfoillaw22.ChangeTakes", spec := "changeTakes", inPlace := ["internal/abi.NoEscape", "internal/bytealg.abigen_runtime_cmpstring"], unfollowed := true, recurses := true, apart := false, narrowed := true }
def ChangeTakesUptoSaid : Prop := changeTakesUptoRow.holds Try.pinned (OpenSpec.upto changeTakesSpec)

end Rows
end Go.Proofs.Ytchmeldlpoimnaa
