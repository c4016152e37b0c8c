/-
  No cell of these rows narrows 'for every input' (looked for: loops, veiled, ifaces, maps, wideKeys, modest, calm, conditions, laid).
  DERIVED. THE GIVEN ROWS OF THIS SEAT. 10 by the template 'for every input the law returns true; each argument reads behind the call as it read before'; 0 by the template 'total and deterministic' (their statements: YthphfmngofbabaaTotals.lean).
  GIVEN WITH THE SEED: the statements are not yours to turn. If you find one false, say at which input.
  Laid BY PROGRAM, IN A SANDBOX (cutbox-rows.mjs): the forced cells as the released guide's own fill.sh prints them over the translation 513cb0096abcc542… (all of the seat's roots in one cut). By AI agents, Wed Nov 11 2026. No macro, syntax, notation, axiom, sorry.
-/
import Derived.Test.YthphfmngofbabaaChecked
import GoSem.Claim
import GoSem.ClaimJoined
import GoSem.ClaimMapViews
import Derived.JoinedTies
import Derived.KernelRfl
namespace Go.Proofs.Ythphfmngofbabaa
/- THE CELL 'sum', in the pinned program and in every row, IS THE sha256 OF THE DUMP (.gsa) THAT YthphfmngofbabaaProg.lean LOADS. Nothing in Lean hashes anything: it is a label: what it is worth is what the hold of that sum in a sandbox is worth. -/
noncomputable def Try.pinned : Pinned := { name := "ythphfmngofbabaa", sum := "513cb0096abcc542a26a465d7b1326f0b71b24353af1c543a7d55390a6fbcb86", checked := Try.checked }
namespace Rows
def none {H : Type} : Left H := { results := [], args := [] }

/-- 'laws.FnExactSameTraining': WHATEVER THE INPUT: true; the input reads as it did. -/
def fnExactSameTrainingSpec : ChangeSpec := { name := "fnExactSameTraining", fn := fun _ => fun
  | [d1, d2] => { results := [.lit (.bool true)], args := [d1, d2] }
  | _ => none }
def fnExactSameTrainingRow : OpenClaim := { program := "ythphfmngofbabaa", sum := "513cb0096abcc542a26a465d7b1326f0b71b24353af1c543a7d55390a6fbcb86", func := "loop.example/g01157/laws.FnExactSameTraining", spec := "fnExactSameTraining", inPlace := ["math.Float32bits", "math.Float64bits"], unfollowed := true, recurses := true, apart := false }
def FnExactSameTrainingSaid : Prop := fnExactSameTrainingRow.holds Try.pinned (OpenSpec.ofChange fnExactSameTrainingSpec)

/-- ITS FALSE NEIGHBOUR: 'it returns false'. Refute it at one input. -/
def fnExactSameTrainingWrong : ChangeSpec := { name := "fnExactSameTraining", fn := fun _ => fun
  | [d1, d2] => { results := [.lit (.bool false)], args := [d1, d2] }
  | _ => none }
def FnExactSameTrainingWrongFalsely : Prop := fnExactSameTrainingRow.holds Try.pinned (OpenSpec.ofChange fnExactSameTrainingWrong)

/-- 'laws.FnShares': WHATEVER THE INPUT: true; the input reads as it did. -/
def fnSharesSpec : ChangeSpec := { name := "fnShares", fn := fun _ => fun
  | [d1, d2] => { results := [.lit (.bool true)], args := [d1, d2] }
  | _ => none }
def fnSharesRow : OpenClaim := { program := "ythphfmngofbabaa", sum := "513cb0096abcc542a26a465d7b1326f0b71b24353af1c543a7d55390a6fbcb86", func := "loop.example/g01157/laws.FnShares", spec := "fnShares", inPlace := ["math.Float64frombits", "math.sqrt"], apart := false }
def FnSharesSaid : Prop := fnSharesRow.holds Try.pinned (OpenSpec.ofChange fnSharesSpec)

/-- ITS FALSE NEIGHBOUR: 'it returns false'. Refute it at one input. -/
def fnSharesWrong : ChangeSpec := { name := "fnShares", fn := fun _ => fun
  | [d1, d2] => { results := [.lit (.bool false)], args := [d1, d2] }
  | _ => none }
def FnSharesWrongFalsely : Prop := fnSharesRow.holds Try.pinned (OpenSpec.ofChange fnSharesWrong)

/-- 'laws.FnExactIsStorable': WHATEVER THE INPUT: true; the input reads as it did. -/
def fnExactIsStorableSpec : ChangeSpec := { name := "fnExactIsStorable", fn := fun _ => fun
  | [d] => { results := [.lit (.bool true)], args := [d] }
  | _ => none }
def fnExactIsStorableRow : OpenClaim := { program := "ythphfmngofbabaa", sum := "513cb0096abcc542a26a465d7b1326f0b71b24353af1c543a7d55390a6fbcb86", func := "loop.example/g01157/laws.FnExactIsStorable", spec := "fnExactIsStorable", apart := false }
def FnExactIsStorableSaid : Prop := fnExactIsStorableRow.holds Try.pinned (OpenSpec.ofChange fnExactIsStorableSpec)

/-- ITS FALSE NEIGHBOUR: 'it returns false'. Refute it at one input. -/
def fnExactIsStorableWrong : ChangeSpec := { name := "fnExactIsStorable", fn := fun _ => fun
  | [d] => { results := [.lit (.bool false)], args := [d] }
  | _ => none }
def FnExactIsStorableWrongFalsely : Prop := fnExactIsStorableRow.holds Try.pinned (OpenSpec.ofChange fnExactIsStorableWrong)

/-- 'laws.FnExactSplitModel': WHATEVER THE INPUT: true; the input reads as it did. -/
def fnExactSplitModelSpec : ChangeSpec := { name := "fnExactSplitModel", fn := fun _ => fun
  | [d1, d2] => { results := [.lit (.bool true)], args := [d1, d2] }
  | _ => none }
def fnExactSplitModelRow : OpenClaim := { program := "ythphfmngofbabaa", sum := "513cb0096abcc542a26a465d7b1326f0b71b24353af1c543a7d55390a6fbcb86", func := "loop.example/g01157/laws.FnExactSplitModel", spec := "fnExactSplitModel", apart := false }
def FnExactSplitModelSaid : Prop := fnExactSplitModelRow.holds Try.pinned (OpenSpec.ofChange fnExactSplitModelSpec)

/-- ITS FALSE NEIGHBOUR: 'it returns false'. Refute it at one input. -/
def fnExactSplitModelWrong : ChangeSpec := { name := "fnExactSplitModel", fn := fun _ => fun
  | [d1, d2] => { results := [.lit (.bool false)], args := [d1, d2] }
  | _ => none }
def FnExactSplitModelWrongFalsely : Prop := fnExactSplitModelRow.holds Try.pinned (OpenSpec.ofChange fnExactSplitModelWrong)

/-- 'laws.FnExactAreInSync': WHATEVER THE INPUT: true; the input reads as it did. -/
def fnExactAreInSyncSpec : ChangeSpec := { name := "fnExactAreInSync", fn := fun _ => fun
  | [d] => { results := [.lit (.bool true)], args := [d] }
  | _ => none }
def fnExactAreInSyncRow : OpenClaim := { program := "ythphfmngofbabaa", sum := "513cb0096abcc542a26a465d7b1326f0b71b24353af1c543a7d55390a6fbcb86", func := "loop.example/g01157/laws.FnExactAreInSync", spec := "fnExactAreInSync", inPlace := ["math.Float32bits", "math.Float64bits"], unfollowed := true, recurses := true, apart := false }
def FnExactAreInSyncSaid : Prop := fnExactAreInSyncRow.holds Try.pinned (OpenSpec.ofChange fnExactAreInSyncSpec)

/-- ITS FALSE NEIGHBOUR: 'it returns false'. Refute it at one input. -/
def fnExactAreInSyncWrong : ChangeSpec := { name := "fnExactAreInSync", fn := fun _ => fun
  | [d] => { results := [.lit (.bool false)], args := [d] }
  | _ => none }
def FnExactAreInSyncWrongFalsely : Prop := fnExactAreInSyncRow.holds Try.pinned (OpenSpec.ofChange fnExactAreInSyncWrong)

/-- 'laws.FnExactJoinModels': WHATEVER THE INPUT: true; the input reads as it did. -/
def fnExactJoinModelsSpec : ChangeSpec := { name := "fnExactJoinModels", fn := fun _ => fun
  | [d1, d2] => { results := [.lit (.bool true)], args := [d1, d2] }
  | _ => none }
def fnExactJoinModelsRow : OpenClaim := { program := "ythphfmngofbabaa", sum := "513cb0096abcc542a26a465d7b1326f0b71b24353af1c543a7d55390a6fbcb86", func := "loop.example/g01157/laws.FnExactJoinModels", spec := "fnExactJoinModels", apart := false }
def FnExactJoinModelsSaid : Prop := fnExactJoinModelsRow.holds Try.pinned (OpenSpec.ofChange fnExactJoinModelsSpec)

/-- ITS FALSE NEIGHBOUR: 'it returns false'. Refute it at one input. -/
def fnExactJoinModelsWrong : ChangeSpec := { name := "fnExactJoinModels", fn := fun _ => fun
  | [d1, d2] => { results := [.lit (.bool false)], args := [d1, d2] }
  | _ => none }
def FnExactJoinModelsWrongFalsely : Prop := fnExactJoinModelsRow.holds Try.pinned (OpenSpec.ofChange fnExactJoinModelsWrong)

/-- 'laws.FnExactValidTraining': WHATEVER THE INPUT: true; the input reads as it did. -/
def fnExactValidTrainingSpec : ChangeSpec := { name := "fnExactValidTraining", fn := fun _ => fun
  | [d1, d2] => { results := [.lit (.bool true)], args := [d1, d2] }
  | _ => none }
def fnExactValidTrainingRow : OpenClaim := { program := "ythphfmngofbabaa", sum := "513cb0096abcc542a26a465d7b1326f0b71b24353af1c543a7d55390a6fbcb86", func := "loop.example/g01157/laws.FnExactValidTraining", spec := "fnExactValidTraining", unfollowed := true, recurses := true, apart := false }
def FnExactValidTrainingSaid : Prop := fnExactValidTrainingRow.holds Try.pinned (OpenSpec.ofChange fnExactValidTrainingSpec)

/-- ITS FALSE NEIGHBOUR: 'it returns false'. Refute it at one input. -/
def fnExactValidTrainingWrong : ChangeSpec := { name := "fnExactValidTraining", fn := fun _ => fun
  | [d1, d2] => { results := [.lit (.bool false)], args := [d1, d2] }
  | _ => none }
def FnExactValidTrainingWrongFalsely : Prop := fnExactValidTrainingRow.holds Try.pinned (OpenSpec.ofChange fnExactValidTrainingWrong)

/-- 'laws.FnExactAllNumbers': WHATEVER THE INPUT: true; the input reads as it did. -/
def fnExactAllNumbersSpec : ChangeSpec := { name := "fnExactAllNumbers", fn := fun _ => fun
  | [d] => { results := [.lit (.bool true)], args := [d] }
  | _ => none }
def fnExactAllNumbersRow : OpenClaim := { program := "ythphfmngofbabaa", sum := "513cb0096abcc542a26a465d7b1326f0b71b24353af1c543a7d55390a6fbcb86", func := "loop.example/g01157/laws.FnExactAllNumbers", spec := "fnExactAllNumbers", apart := false }
def FnExactAllNumbersSaid : Prop := fnExactAllNumbersRow.holds Try.pinned (OpenSpec.ofChange fnExactAllNumbersSpec)

/-- ITS FALSE NEIGHBOUR: 'it returns false'. Refute it at one input. -/
def fnExactAllNumbersWrong : ChangeSpec := { name := "fnExactAllNumbers", fn := fun _ => fun
  | [d] => { results := [.lit (.bool false)], args := [d] }
  | _ => none }
def FnExactAllNumbersWrongFalsely : Prop := fnExactAllNumbersRow.holds Try.pinned (OpenSpec.ofChange fnExactAllNumbersWrong)

/-- 'laws.FnExactCompileModel': WHATEVER THE INPUT: true; the input reads as it did. -/
def fnExactCompileModelSpec : ChangeSpec := { name := "fnExactCompileModel", fn := fun _ => fun
  | [d] => { results := [.lit (.bool true)], args := [d] }
  | _ => none }
def fnExactCompileModelRow : OpenClaim := { program := "ythphfmngofbabaa", sum := "513cb0096abcc542a26a465d7b1326f0b71b24353af1c543a7d55390a6fbcb86", func := "loop.example/g01157/laws.FnExactCompileModel", spec := "fnExactCompileModel", unfollowed := true, recurses := true, apart := false }
def FnExactCompileModelSaid : Prop := fnExactCompileModelRow.holds Try.pinned (OpenSpec.ofChange fnExactCompileModelSpec)

/-- ITS FALSE NEIGHBOUR: 'it returns false'. Refute it at one input. -/
def fnExactCompileModelWrong : ChangeSpec := { name := "fnExactCompileModel", fn := fun _ => fun
  | [d] => { results := [.lit (.bool false)], args := [d] }
  | _ => none }
def FnExactCompileModelWrongFalsely : Prop := fnExactCompileModelRow.holds Try.pinned (OpenSpec.ofChange fnExactCompileModelWrong)

/-- 'laws.FnConfusion': WHATEVER THE INPUT: true; the input reads as it did. -/
def fnConfusionSpec : ChangeSpec := { name := "fnConfusion", fn := fun _ => fun
  | [d1, d2] => { results := [.lit (.bool true)], args := [d1, d2] }
  | _ => none }
def fnConfusionRow : OpenClaim := { program := "ythphfmngofbabaa", sum := "513cb0096abcc542a26a465d7b1326f0b71b24353af1c543a7d55390a6fbcb86", func := "loop.example/g01157/laws.FnConfusion", spec := "fnConfusion", inPlace := ["math.Float32frombits", "math.Float64frombits", "math.sqrt"], unfollowed := true, recurses := true, apart := false }
def FnConfusionSaid : Prop := fnConfusionRow.holds Try.pinned (OpenSpec.ofChange fnConfusionSpec)

/-- ITS FALSE NEIGHBOUR: 'it returns false'. Refute it at one input. -/
def fnConfusionWrong : ChangeSpec := { name := "fnConfusion", fn := fun _ => fun
  | [d1, d2] => { results := [.lit (.bool false)], args := [d1, d2] }
  | _ => none }
def FnConfusionWrongFalsely : Prop := fnConfusionRow.holds Try.pinned (OpenSpec.ofChange fnConfusionWrong)

/- THE SECOND FORM. 'bulk': how many values and letters a reading holds, each counted each time it is reached (what is shared counts as often as it is met; a slice's spare places count too). A statement '..UptoSaid' is the law's where the arguments, and the package variables that the reading takes, are together of bulk at most 1048576: NARROWER than '..Said'. Prove '..Said' where nothing that the law and all that it calls make is longer than what came in: it says more and counts as full. Else prove '..UptoSaid'. A law counts once. -/
mutual
def uptoBulk {H : Type} : DataW H → Nat
  | .lit (.string bytes) => bytes.length + 1
  | .lit _ => 1
  | .nil => 1
  | .ptr d => uptoBulk d + 1
  | .slice elems spare => uptoBulkAll elems + uptoBulkAll spare + 1
  | .agg parts => uptoBulkAll parts + 1
  | .iface _ d => uptoBulk d + 1
  | .map entries => uptoBulkEntries entries + 1
  | .held _ => 1
def uptoBulkAll {H : Type} : List (DataW H) → Nat
  | [] => 0
  | d :: r => uptoBulk d + uptoBulkAll r
def uptoBulkEntries {H : Type} : List (Lit × DataW H) → Nat
  | [] => 0
  | x :: r => uptoBulkEntry x + uptoBulkEntries r
def uptoBulkEntry {H : Type} : Lit × DataW H → Nat
  | (.string bytes, d) => bytes.length + uptoBulk d + 1
  | (_, d) => uptoBulk d + 1
 end
def uptoSmall : (H : Type) → List (DataW H) → Bool := fun _ ds => decide (uptoBulkAll ds ≤ 1048576)
def OpenSpec.upto (s : _root_.Go.ChangeSpec) : _root_.Go.OpenSpec := { _root_.Go.OpenSpec.ofChange s with cond := some uptoSmall }

/-- 'laws.FnExactSameTraining', WHERE WHAT IT READS IS OF BULK AT MOST 1048576: true; the input reads as it did. -/
def fnExactSameTrainingUptoRow : OpenClaim := { program := "ythphfmngofbabaa", sum := "513cb0096abcc542a26a465d7b1326f0b71b24353af1c543a7d55390a6fbcb86", func := "loop.example/g01157/laws.FnExactSameTraining", spec := "fnExactSameTraining", inPlace := ["math.Float32bits", "math.Float64bits"], unfollowed := true, recurses := true, apart := false, narrowed := true }
def FnExactSameTrainingUptoSaid : Prop := fnExactSameTrainingUptoRow.holds Try.pinned (OpenSpec.upto fnExactSameTrainingSpec)

/-- 'laws.FnShares', WHERE WHAT IT READS IS OF BULK AT MOST 1048576: true; the input reads as it did. -/
def fnSharesUptoRow : OpenClaim := { program := "ythphfmngofbabaa", sum := "513cb0096abcc542a26a465d7b1326f0b71b24353af1c543a7d55390a6fbcb86", func := "loop.example/g01157/laws.FnShares", spec := "fnShares", inPlace := ["math.Float64frombits", "math.sqrt"], apart := false, narrowed := true }
def FnSharesUptoSaid : Prop := fnSharesUptoRow.holds Try.pinned (OpenSpec.upto fnSharesSpec)

/-- 'laws.FnExactIsStorable', WHERE WHAT IT READS IS OF BULK AT MOST 1048576: true; the input reads as it did. -/
def fnExactIsStorableUptoRow : OpenClaim := { program := "ythphfmngofbabaa", sum := "513cb0096abcc542a26a465d7b1326f0b71b24353af1c543a7d55390a6fbcb86", func := "loop.example/g01157/laws.FnExactIsStorable", spec := "fnExactIsStorable", apart := false, narrowed := true }
def FnExactIsStorableUptoSaid : Prop := fnExactIsStorableUptoRow.holds Try.pinned (OpenSpec.upto fnExactIsStorableSpec)

/-- 'laws.FnExactSplitModel', WHERE WHAT IT READS IS OF BULK AT MOST 1048576: true; the input reads as it did. -/
def fnExactSplitModelUptoRow : OpenClaim := { program := "ythphfmngofbabaa", sum := "513cb0096abcc542a26a465d7b1326f0b71b24353af1c543a7d55390a6fbcb86", func := "loop.example/g01157/laws.FnExactSplitModel", spec := "fnExactSplitModel", apart := false, narrowed := true }
def FnExactSplitModelUptoSaid : Prop := fnExactSplitModelUptoRow.holds Try.pinned (OpenSpec.upto fnExactSplitModelSpec)

/-- 'laws.FnExactAreInSync', WHERE WHAT IT READS IS OF BULK AT MOST 1048576: true; the input reads as it did. -/
def fnExactAreInSyncUptoRow : OpenClaim := { program := "ythphfmngofbabaa", sum := "513cb0096abcc542a26a465d7b1326f0b71b24353af1c543a7d55390a6fbcb86", func := "loop.example/g01157/laws.FnExactAreInSync", spec := "fnExactAreInSync", inPlace := ["math.Float32bits", "math.Float64bits"], unfollowed := true, recurses := true, apart := false, narrowed := true }
def FnExactAreInSyncUptoSaid : Prop := fnExactAreInSyncUptoRow.holds Try.pinned (OpenSpec.upto fnExactAreInSyncSpec)

/-- 'laws.FnExactJoinModels', WHERE WHAT IT READS IS OF BULK AT MOST 1048576: true; the input reads as it did. -/
def fnExactJoinModelsUptoRow : OpenClaim := { program := "ythphfmngofbabaa", sum := "513cb0096abcc542a26a465d7b1326f0b71b24353af1c543a7d55390a6fbcb86", func := "loop.example/g01157/laws.FnExactJoinModels", spec := "fnExactJoinModels", apart := false, narrowed := true }
def FnExactJoinModelsUptoSaid : Prop := fnExactJoinModelsUptoRow.holds Try.pinned (OpenSpec.upto fnExactJoinModelsSpec)

/-- 'laws.FnExactValidTraining', WHERE WHAT IT READS IS OF BULK AT MOST 1048576: true; the input reads as it did. -/
def fnExactValidTrainingUptoRow : OpenClaim := { program := "ythphfmngofbabaa", sum := "513cb0096abcc542a26a465d7b1326f0b71b24353af1c543a7d55390a6fbcb86", func := "loop.example/g01157/laws.FnExactValidTraining", spec := "fnExactValidTraining", unfollowed := true, recurses := true, apart := false, narrowed := true }
def FnExactValidTrainingUptoSaid : Prop := fnExactValidTrainingUptoRow.holds Try.pinned (OpenSpec.upto fnExactValidTrainingSpec)

/-- 'laws.FnExactAllNumbers', WHERE WHAT IT READS IS OF BULK AT MOST 1048576: true; the input reads as it did. -/
def fnExactAllNumbersUptoRow : OpenClaim := { program := "ythphfmngofbabaa", sum := "513cb0096abcc542a26a465d7b1326f0b71b24353af1c543a7d55390a6fbcb86", func := "loop.example/g01157/laws.FnExactAllNumbers", spec := "fnExactAllNumbers", apart := false, narrowed := true }
def FnExactAllNumbersUptoSaid : Prop := fnExactAllNumbersUptoRow.holds Try.pinned (OpenSpec.upto fnExactAllNumbersSpec)

/-- 'laws.FnExactCompileModel', WHERE WHAT IT READS IS OF BULK AT MOST 1048576: true; the input reads as it did. -/
def fnExactCompileModelUptoRow : OpenClaim := { program := "ythphfmngofbabaa", sum := "513cb0096abcc542a26a465d7b1326f0b71b24353af1c543a7d55390a6fbcb86", func := "loop.example/g01157/laws.FnExactCompileModel", spec := "fnExactCompileModel", unfollowed := true, recurses := true, apart := false, narrowed := true }
def FnExactCompileModelUptoSaid : Prop := fnExactCompileModelUptoRow.holds Try.pinned (OpenSpec.upto fnExactCompileModelSpec)

/-- 'laws.FnConfusion', WHERE WHAT IT READS IS OF BULK AT MOST 1048576: true; the input reads as it did. -/
def fnConfusionUptoRow : OpenClaim := { program := "ythphfmngofbabaa", sum := "513cb0096abcc542a26a465d7b1326f0b71b24353af1c543a7d55390a6fbcb86", func := "loop.example/g01157/laws.FnConfusion", spec := "fnConfusion", inPlace := ["math.Float32frombits", "math.Float64frombits", "math.sqrt"], unfollowed := true, recurses := true, apart := false, narrowed := true }
def FnConfusionUptoSaid : Prop := fnConfusionUptoRow.holds Try.pinned (OpenSpec.upto fnConfusionSpec)

end Rows
end Go.Proofs.Ythphfmngofbabaa
