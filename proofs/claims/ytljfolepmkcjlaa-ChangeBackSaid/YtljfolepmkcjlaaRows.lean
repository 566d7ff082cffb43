/-
  No cell of these rows narrows 'for every input' (looked for: loops, veiled, ifaces, maps, wideKeys, modest, calm, conditions, laid).
  DERIVED. THE GIVEN ROWS OF THIS SEAT. 7 by the template 'for every input the law returns true; each argument reads behind the call as it read before'; 0 by the template 'total and deterministic' (their statements: YtljfolepmkcjlaaTotals.lean).
  GIVEN WITH THE SEED: the statements are not yours to turn. If you find one false, say at which input.
  Laid BY PROGRAM, IN A SANDBOX (cutbox-rows.mjs): the forced cells as the released guide's own fill.sh prints them over the translation 5657595c27ca87dc… (all of the seat's roots in one cut). By AI agents, Wed Nov 11 2026. No macro, syntax, notation, axiom, sorry.
-/
import Derived.Test.YtljfolepmkcjlaaChecked
import GoSem.Claim
import GoSem.ClaimJoined
import GoSem.ClaimMapViews
import Derived.JoinedTies
import Derived.KernelRfl
namespace Go.Proofs.Ytljfolepmkcjlaa
/- THE CELL 'sum', in the pinned program and in every row, IS THE sha256 OF THE DUMP (.gsa) THAT YtljfolepmkcjlaaProg.lean LOADS. Nothing in Lean hashes anything: it is a label: what it is worth is what the hold of that sum in a sandbox is worth. -/
noncomputable def Try.pinned : Pinned := { name := "ytljfolepmkcjlaa", sum := "5657595c27ca87dc150bbd8d19450135f753f382bfc260de80a9cff0f984c657", checked := Try.checked }
namespace Rows
def none {H : Type} : Left H := { results := [], args := [] }

/-- 'counterfoillaw24.RebaseUpon': WHATEVER THE INPUT: true; the input reads as it did. -/
def rebaseUponSpec : ChangeSpec := { name := "rebaseUpon", fn := fun _ => fun
  | [d1, d2, d3] => { results := [.lit (.bool true)], args := [d1, d2, d3] }
  | _ => none }
def rebaseUponRow : OpenClaim := { program := "ytljfolepmkcjlaa", sum := "5657595c27ca87dc150bbd8d19450135f753f382bfc260de80a9cff0f984c657", func := "counterfoil/counterfoillaw24.RebaseUpon", spec := "rebaseUpon", inPlace := ["internal/abi.NoEscape", "internal/bytealg.abigen_runtime_cmpstring"], unfollowed := true, recurses := true, apart := false }
def RebaseUponSaid : Prop := rebaseUponRow.holds Try.pinned (OpenSpec.ofChange rebaseUponSpec)

/-- ITS FALSE NEIGHBOUR: 'it returns false'. Refute it at one input. -/
def rebaseUponWrong : ChangeSpec := { name := "rebaseUpon", fn := fun _ => fun
  | [d1, d2, d3] => { results := [.lit (.bool false)], args := [d1, d2, d3] }
  | _ => none }
def RebaseUponWrongFalsely : Prop := rebaseUponRow.holds Try.pinned (OpenSpec.ofChange rebaseUponWrong)

/-- 'counterfoillaw24.RebaseBoth': WHATEVER THE INPUT: true; the input reads as it did. -/
def rebaseBothSpec : ChangeSpec := { name := "rebaseBoth", fn := fun _ => fun
  | [d1, d2, d3] => { results := [.lit (.bool true)], args := [d1, d2, d3] }
  | _ => none }
def rebaseBothRow : OpenClaim := { program := "ytljfolepmkcjlaa", sum := "5657595c27ca87dc150bbd8d19450135f753f382bfc260de80a9cff0f984c657", func := "counterfoil/counterfoillaw24.RebaseBoth", spec := "rebaseBoth", inPlace := ["internal/abi.NoEscape", "internal/bytealg.abigen_runtime_cmpstring"], unfollowed := true, recurses := true, apart := false }
def RebaseBothSaid : Prop := rebaseBothRow.holds Try.pinned (OpenSpec.ofChange rebaseBothSpec)

/-- ITS FALSE NEIGHBOUR: 'it returns false'. Refute it at one input. -/
def rebaseBothWrong : ChangeSpec := { name := "rebaseBoth", fn := fun _ => fun
  | [d1, d2, d3] => { results := [.lit (.bool false)], args := [d1, d2, d3] }
  | _ => none }
def RebaseBothWrongFalsely : Prop := rebaseBothRow.holds Try.pinned (OpenSpec.ofChange rebaseBothWrong)

/-- 'counterfoillaw22.ChangeTakes': WHATEVER THE INPUT: true; the input reads as it did. -/
def changeTakesSpec : ChangeSpec := { name := "changeTakes", fn := fun _ => fun
  | [d] => { results := [.lit (.bool true)], args := [d] }
  | _ => none }
def changeTakesRow : OpenClaim := { program := "ytljfolepmkcjlaa", sum := "5657595c27ca87dc150bbd8d19450135f753f382bfc260de80a9cff0f984c657", func := "counterfoil/counterfoillaw22.ChangeTakes", spec := "changeTakes", inPlace := ["internal/abi.NoEscape", "internal/bytealg.abigen_runtime_cmpstring"], unfollowed := true, recurses := true, apart := false }
def ChangeTakesSaid : Prop := changeTakesRow.holds Try.pinned (OpenSpec.ofChange changeTakesSpec)

/-- ITS FALSE NEIGHBOUR: 'it returns false'. Refute it at one input. -/
def changeTakesWrong : ChangeSpec := { name := "changeTakes", fn := fun _ => fun
  | [d] => { results := [.lit (.bool false)], args := [d] }
  | _ => none }
def ChangeTakesWrongFalsely : Prop := changeTakesRow.holds Try.pinned (OpenSpec.ofChange changeTakesWrong)

/-- 'counterfoillaw22.ChangeConcats': WHATEVER THE INPUT: true; the input reads as it did. -/
def changeConcatsSpec : ChangeSpec := { name := "changeConcats", fn := fun _ => fun
  | [d1, d2] => { results := [.lit (.bool true)], args := [d1, d2] }
  | _ => none }
def changeConcatsRow : OpenClaim := { program := "ytljfolepmkcjlaa", sum := "5657595c27ca87dc150bbd8d19450135f753f382bfc260de80a9cff0f984c657", func := "counterfoil/counterfoillaw22.ChangeConcats", spec := "changeConcats", inPlace := ["internal/abi.NoEscape", "internal/bytealg.abigen_runtime_cmpstring"], unfollowed := true, recurses := true, apart := false }
def ChangeConcatsSaid : Prop := changeConcatsRow.holds Try.pinned (OpenSpec.ofChange changeConcatsSpec)

/-- ITS FALSE NEIGHBOUR: 'it returns false'. Refute it at one input. -/
def changeConcatsWrong : ChangeSpec := { name := "changeConcats", fn := fun _ => fun
  | [d1, d2] => { results := [.lit (.bool false)], args := [d1, d2] }
  | _ => none }
def ChangeConcatsWrongFalsely : Prop := changeConcatsRow.holds Try.pinned (OpenSpec.ofChange changeConcatsWrong)

/-- 'counterfoillaw22.ChangeParts': WHATEVER THE INPUT: true; the input reads as it did. -/
def changePartsSpec : ChangeSpec := { name := "changeParts", fn := fun _ => fun
  | [d1, d2, d3] => { results := [.lit (.bool true)], args := [d1, d2, d3] }
  | _ => none }
def changePartsRow : OpenClaim := { program := "ytljfolepmkcjlaa", sum := "5657595c27ca87dc150bbd8d19450135f753f382bfc260de80a9cff0f984c657", func := "counterfoil/counterfoillaw22.ChangeParts", spec := "changeParts", inPlace := ["internal/abi.NoEscape", "internal/bytealg.abigen_runtime_cmpstring"], unfollowed := true, recurses := true, apart := false }
def ChangePartsSaid : Prop := changePartsRow.holds Try.pinned (OpenSpec.ofChange changePartsSpec)

/-- ITS FALSE NEIGHBOUR: 'it returns false'. Refute it at one input. -/
def changePartsWrong : ChangeSpec := { name := "changeParts", fn := fun _ => fun
  | [d1, d2, d3] => { results := [.lit (.bool false)], args := [d1, d2, d3] }
  | _ => none }
def ChangePartsWrongFalsely : Prop := changePartsRow.holds Try.pinned (OpenSpec.ofChange changePartsWrong)

/-- 'counterfoillaw22.ChangeBack': WHATEVER THE INPUT: true; the input reads as it did. -/
def changeBackSpec : ChangeSpec := { name := "changeBack", fn := fun _ => fun
  | [d1, d2] => { results := [.lit (.bool true)], args := [d1, d2] }
  | _ => none }
def changeBackRow : OpenClaim := { program := "ytljfolepmkcjlaa", sum := "5657595c27ca87dc150bbd8d19450135f753f382bfc260de80a9cff0f984c657", func := "counterfoil/counterfoillaw22.ChangeBack", spec := "changeBack", inPlace := ["internal/abi.NoEscape", "internal/bytealg.abigen_runtime_cmpstring"], unfollowed := true, recurses := true, apart := false }
def ChangeBackSaid : Prop := changeBackRow.holds Try.pinned (OpenSpec.ofChange changeBackSpec)

/-- ITS FALSE NEIGHBOUR: 'it returns false'. Refute it at one input. -/
def changeBackWrong : ChangeSpec := { name := "changeBack", fn := fun _ => fun
  | [d1, d2] => { results := [.lit (.bool false)], args := [d1, d2] }
  | _ => none }
def ChangeBackWrongFalsely : Prop := changeBackRow.holds Try.pinned (OpenSpec.ofChange changeBackWrong)

/-- 'counterfoillaw22.ChangeNone': WHATEVER THE INPUT: true; the input reads as it did. -/
def changeNoneSpec : ChangeSpec := { name := "changeNone", fn := fun _ => fun
  | [d] => { results := [.lit (.bool true)], args := [d] }
  | _ => none }
def changeNoneRow : OpenClaim := { program := "ytljfolepmkcjlaa", sum := "5657595c27ca87dc150bbd8d19450135f753f382bfc260de80a9cff0f984c657", func := "counterfoil/counterfoillaw22.ChangeNone", spec := "changeNone", inPlace := ["internal/abi.NoEscape", "internal/bytealg.abigen_runtime_cmpstring"], unfollowed := true, recurses := true, apart := false }
def ChangeNoneSaid : Prop := changeNoneRow.holds Try.pinned (OpenSpec.ofChange changeNoneSpec)

/-- ITS FALSE NEIGHBOUR: 'it returns false'. Refute it at one input. -/
def changeNoneWrong : ChangeSpec := { name := "changeNone", fn := fun _ => fun
  | [d] => { results := [.lit (.bool false)], args := [d] }
  | _ => none }
def ChangeNoneWrongFalsely : Prop := changeNoneRow.holds Try.pinned (OpenSpec.ofChange changeNoneWrong)

/- THE SECOND FORM. 'bulk': how many values and letters a reading holds, each counted each time it is reached (what is shared counts as often as it is met; a slice's spare places count too). A statement '..UptoSaid' is the law's where the arguments, and the package variables that the reading takes, are together of bulk at most 1048576: NARROWER than '..Said'. Prove '..Said' where nothing that the law and all that it calls make is longer than what came in: it says more and counts as full. Else prove '..UptoSaid'. A law counts once. -/
mutual
def uptoBulk {H : Type} : DataW H → Nat
  | .lit (.string bytes) => bytes.length + 1
  | .lit _ => 1
  | .nil => 1
  | .ptr d => uptoBulk d + 1
  | .slice elems spare => uptoBulkAll elems + uptoBulkAll spare + 1
  | .agg parts => uptoBulkAll parts + 1
  | .iface _ d => uptoBulk d + 1
  | .map entries => uptoBulkEntries entries + 1
  | .held _ => 1
def uptoBulkAll {H : Type} : List (DataW H) → Nat
  | [] => 0
  | d :: r => uptoBulk d + uptoBulkAll r
def uptoBulkEntries {H : Type} : List (Lit × DataW H) → Nat
  | [] => 0
  | x :: r => uptoBulkEntry x + uptoBulkEntries r
def uptoBulkEntry {H : Type} : Lit × DataW H → Nat
  | (.string bytes, d) => bytes.length + uptoBulk d + 1
  | (_, d) => uptoBulk d + 1
 end
def uptoSmall : (H : Type) → List (DataW H) → Bool := fun _ ds => decide (uptoBulkAll ds ≤ 1048576)
def OpenSpec.upto (s : _root_.Go.ChangeSpec) : _root_.Go.OpenSpec := { _root_.Go.OpenSpec.ofChange s with cond := some uptoSmall }

/-- 'counterfoillaw24.RebaseUpon', WHERE WHAT IT READS IS OF BULK AT MOST 1048576: true; the input reads as it did. -/
def rebaseUponUptoRow : OpenClaim := { program := "ytljfolepmkcjlaa", sum := "5657595c27ca87dc150bbd8d19450135f753f382bfc260de80a9cff0f984c657", func := "counterfoil/counterfoillaw24.RebaseUpon", spec := "rebaseUpon", inPlace := ["internal/abi.NoEscape", "internal/bytealg.abigen_runtime_cmpstring"], unfollowed := true, recurses := true, apart := false, narrowed := true }
def RebaseUponUptoSaid : Prop := rebaseUponUptoRow.holds Try.pinned (OpenSpec.upto rebaseUponSpec)

/-- 'counterfoillaw24.RebaseBoth', WHERE WHAT IT READS IS OF BULK AT MOST 1048576: true; the input reads as it did. -/
def rebaseBothUptoRow : OpenClaim := { program := "ytljfolepmkcjlaa", sum := "5657595c27ca87dc150bbd8d19450135f753f382bfc260de80a9cff0f984c657", func := "counterfoil/counterfoillaw24.RebaseBoth", spec := "rebaseBoth", inPlace := ["internal/abi.NoEscape", "internal/bytealg.abigen_runtime_cmpstring"], unfollowed := true, recurses := true, apart := false, narrowed := true }
def RebaseBothUptoSaid : Prop := rebaseBothUptoRow.holds Try.pinned (OpenSpec.upto rebaseBothSpec)

/-- 'counterfoillaw22.ChangeTakes', WHERE WHAT IT READS IS OF BULK AT MOST 1048576: true; the input reads as it did. -/
def changeTakesUptoRow : OpenClaim := { program := "ytljfolepmkcjlaa", sum := "5657595c27ca87dc150bbd8d19450135f753f382bfc260de80a9cff0f984c657", func := "counterfoil/counterfoillaw22.ChangeTakes", spec := "changeTakes", inPlace := ["internal/abi.NoEscape", "internal/bytealg.abigen_runtime_cmpstring"], unfollowed := true, recurses := true, apart := false, narrowed := true }
def ChangeTakesUptoSaid : Prop := changeTakesUptoRow.holds Try.pinned (OpenSpec.upto changeTakesSpec)

/-- 'counterfoillaw22.ChangeConcats', WHERE WHAT IT READS IS OF BULK AT MOST 1048576: true; the input reads as it did. -/
def changeConcatsUptoRow : OpenClaim := { program := "ytljfolepmkcjlaa", sum := "5657595c27ca87dc150bbd8d19450135f753f382bfc260de80a9cff0f984c657", func := "counterfoil/counterfoillaw22.ChangeConcats", spec := "changeConcats", inPlace := ["internal/abi.NoEscape", "internal/bytealg.abigen_runtime_cmpstring"], unfollowed := true, recurses := true, apart := false, narrowed := true }
def ChangeConcatsUptoSaid : Prop := changeConcatsUptoRow.holds Try.pinned (OpenSpec.upto changeConcatsSpec)

/-- 'counterfoillaw22.ChangeParts', WHERE WHAT IT READS IS OF BULK AT MOST 1048576: true; the input reads as it did. -/
def changePartsUptoRow : OpenClaim := { program := "ytljfolepmkcjlaa", sum := "5657595c27ca87dc150bbd8d19450135f753f382bfc260de80a9cff0f984c657", func := "counterfoil/counterfoillaw22.ChangeParts", spec := "changeParts", inPlace := ["internal/abi.NoEscape", "internal/bytealg.abigen_runtime_cmpstring"], unfollowed := true, recurses := true, apart := false, narrowed := true }
def ChangePartsUptoSaid : Prop := changePartsUptoRow.holds Try.pinned (OpenSpec.upto changePartsSpec)

/-- 'counterfoillaw22.ChangeBack', WHERE WHAT IT READS IS OF BULK AT MOST 1048576: true; the input reads as it did. -/
def changeBackUptoRow : OpenClaim := { program := "ytljfolepmkcjlaa", sum := "5657595c27ca87dc150bbd8d19450135f753f382bfc260de80a9cff0f984c657", func := "counterfoil/counterfoillaw22.ChangeBack", spec := "changeBack", inPlace := ["internal/abi.NoEscape", "internal/bytealg.abigen_runtime_cmpstring"], unfollowed := true, recurses := true, apart := false, narrowed := true }
def ChangeBackUptoSaid : Prop := changeBackUptoRow.holds Try.pinned (OpenSpec.upto changeBackSpec)

/-- 'counterfoillaw22.ChangeNone', WHERE WHAT IT READS IS OF BULK AT MOST 1048576: true; the input reads as it did. -/
def changeNoneUptoRow : OpenClaim := { program := "ytljfolepmkcjlaa", sum := "5657595c27ca87dc150bbd8d19450135f753f382bfc260de80a9cff0f984c657", func := "counterfoil/counterfoillaw22.ChangeNone", spec := "changeNone", inPlace := ["internal/abi.NoEscape", "internal/bytealg.abigen_runtime_cmpstring"], unfollowed := true, recurses := true, apart := false, narrowed := true }
def ChangeNoneUptoSaid : Prop := changeNoneUptoRow.holds Try.pinned (OpenSpec.upto changeNoneSpec)

end Rows
end Go.Proofs.Ytljfolepmkcjlaa
