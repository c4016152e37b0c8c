/-
  No cell of these rows narrows 'for every input' (looked for: loops, veiled, ifaces, maps, wideKeys, modest, calm, conditions, laid).
  DERIVED. THE GIVEN ROWS OF THIS SEAT. 11 by the template 'for every input the law returns true; each argument reads behind the call as it read before'; 0 by the template 'total and deterministic' (their statements: YtangnigplachdaaTotals.lean).
  GIVEN WITH THE SEED: the statements are not yours to turn. If you find one false, say at which input.
  Laid BY PROGRAM, IN A SANDBOX (cutbox-rows.mjs): the forced cells as the released guide's own fill.sh prints them over the translation 60e8ce0a20fd62b5… (all of the seat's roots in one cut). By AI agents, Wed Nov 11 2026. No macro, syntax, notation, axiom, sorry.
-/
import Derived.Test.YtangnigplachdaaChecked
import GoSem.Claim
import GoSem.ClaimJoined
import GoSem.ClaimMapViews
import Derived.JoinedTies
import Derived.KernelRfl
namespace Go.Proofs.Ytangnigplachdaa
/- THE CELL 'sum', in the pinned program and in every row, IS THE sha256 OF THE DUMP (.gsa) THAT YtangnigplachdaaProg.lean LOADS. Nothing in Lean hashes anything: it is a label: what it is worth is what the hold of that sum in a sandbox is worth. -/
noncomputable def Try.pinned : Pinned := { name := "ytangnigplachdaa", sum := "60e8ce0a20fd62b5fc99eae5dba25b5d10453742b1b3c223c55efcf06c088d6a", checked := Try.checked }
namespace Rows
def none {H : Type} : Left H := { results := [], args := [] }

/-- 'laws.FnExactStagesOf': WHATEVER THE INPUT: true; the input reads as it did. -/
def fnExactStagesOfSpec : ChangeSpec := { name := "fnExactStagesOf", fn := fun _ => fun
  | [d1, d2] => { results := [.lit (.bool true)], args := [d1, d2] }
  | _ => none }
def fnExactStagesOfRow : OpenClaim := { program := "ytangnigplachdaa", sum := "60e8ce0a20fd62b5fc99eae5dba25b5d10453742b1b3c223c55efcf06c088d6a", func := "loop.example/g01157/laws.FnExactStagesOf", spec := "fnExactStagesOf", inPlace := ["math.Float64frombits", "math.sqrt"], apart := false }
def FnExactStagesOfSaid : Prop := fnExactStagesOfRow.holds Try.pinned (OpenSpec.ofChange fnExactStagesOfSpec)

/-- ITS FALSE NEIGHBOUR: 'it returns false'. Refute it at one input. -/
def fnExactStagesOfWrong : ChangeSpec := { name := "fnExactStagesOf", fn := fun _ => fun
  | [d1, d2] => { results := [.lit (.bool false)], args := [d1, d2] }
  | _ => none }
def FnExactStagesOfWrongFalsely : Prop := fnExactStagesOfRow.holds Try.pinned (OpenSpec.ofChange fnExactStagesOfWrong)

/-- 'laws.FnExactRunModel': WHATEVER THE INPUT: true; the input reads as it did. -/
def fnExactRunModelSpec : ChangeSpec := { name := "fnExactRunModel", fn := fun _ => fun
  | [d1, d2] => { results := [.lit (.bool true)], args := [d1, d2] }
  | _ => none }
def fnExactRunModelRow : OpenClaim := { program := "ytangnigplachdaa", sum := "60e8ce0a20fd62b5fc99eae5dba25b5d10453742b1b3c223c55efcf06c088d6a", func := "loop.example/g01157/laws.FnExactRunModel", spec := "fnExactRunModel", inPlace := ["math.Float64frombits", "math.sqrt"], apart := false }
def FnExactRunModelSaid : Prop := fnExactRunModelRow.holds Try.pinned (OpenSpec.ofChange fnExactRunModelSpec)

/-- ITS FALSE NEIGHBOUR: 'it returns false'. Refute it at one input. -/
def fnExactRunModelWrong : ChangeSpec := { name := "fnExactRunModel", fn := fun _ => fun
  | [d1, d2] => { results := [.lit (.bool false)], args := [d1, d2] }
  | _ => none }
def FnExactRunModelWrongFalsely : Prop := fnExactRunModelRow.holds Try.pinned (OpenSpec.ofChange fnExactRunModelWrong)

/-- 'laws.FnExactCountCorrect': WHATEVER THE INPUT: true; the input reads as it did. -/
def fnExactCountCorrectSpec : ChangeSpec := { name := "fnExactCountCorrect", fn := fun _ => fun
  | [d1, d2] => { results := [.lit (.bool true)], args := [d1, d2] }
  | _ => none }
def fnExactCountCorrectRow : OpenClaim := { program := "ytangnigplachdaa", sum := "60e8ce0a20fd62b5fc99eae5dba25b5d10453742b1b3c223c55efcf06c088d6a", func := "loop.example/g01157/laws.FnExactCountCorrect", spec := "fnExactCountCorrect", inPlace := ["math.Float64frombits", "math.sqrt"], apart := false }
def FnExactCountCorrectSaid : Prop := fnExactCountCorrectRow.holds Try.pinned (OpenSpec.ofChange fnExactCountCorrectSpec)

/-- ITS FALSE NEIGHBOUR: 'it returns false'. Refute it at one input. -/
def fnExactCountCorrectWrong : ChangeSpec := { name := "fnExactCountCorrect", fn := fun _ => fun
  | [d1, d2] => { results := [.lit (.bool false)], args := [d1, d2] }
  | _ => none }
def FnExactCountCorrectWrongFalsely : Prop := fnExactCountCorrectRow.holds Try.pinned (OpenSpec.ofChange fnExactCountCorrectWrong)

/-- 'laws.FnExactCountLabels': WHATEVER THE INPUT: true; the input reads as it did. -/
def fnExactCountLabelsSpec : ChangeSpec := { name := "fnExactCountLabels", fn := fun _ => fun
  | [d1, d2, d3] => { results := [.lit (.bool true)], args := [d1, d2, d3] }
  | _ => none }
def fnExactCountLabelsRow : OpenClaim := { program := "ytangnigplachdaa", sum := "60e8ce0a20fd62b5fc99eae5dba25b5d10453742b1b3c223c55efcf06c088d6a", func := "loop.example/g01157/laws.FnExactCountLabels", spec := "fnExactCountLabels", inPlace := ["math.Float64frombits", "math.sqrt"], unfollowed := true, recurses := true, apart := false }
def FnExactCountLabelsSaid : Prop := fnExactCountLabelsRow.holds Try.pinned (OpenSpec.ofChange fnExactCountLabelsSpec)

/-- ITS FALSE NEIGHBOUR: 'it returns false'. Refute it at one input. -/
def fnExactCountLabelsWrong : ChangeSpec := { name := "fnExactCountLabels", fn := fun _ => fun
  | [d1, d2, d3] => { results := [.lit (.bool false)], args := [d1, d2, d3] }
  | _ => none }
def FnExactCountLabelsWrongFalsely : Prop := fnExactCountLabelsRow.holds Try.pinned (OpenSpec.ofChange fnExactCountLabelsWrong)

/-- 'laws.FnExactRunPlan': WHATEVER THE INPUT: true; the input reads as it did. -/
def fnExactRunPlanSpec : ChangeSpec := { name := "fnExactRunPlan", fn := fun _ => fun
  | [d1, d2] => { results := [.lit (.bool true)], args := [d1, d2] }
  | _ => none }
def fnExactRunPlanRow : OpenClaim := { program := "ytangnigplachdaa", sum := "60e8ce0a20fd62b5fc99eae5dba25b5d10453742b1b3c223c55efcf06c088d6a", func := "loop.example/g01157/laws.FnExactRunPlan", spec := "fnExactRunPlan", inPlace := ["math.Float64frombits", "math.sqrt"], apart := false }
def FnExactRunPlanSaid : Prop := fnExactRunPlanRow.holds Try.pinned (OpenSpec.ofChange fnExactRunPlanSpec)

/-- ITS FALSE NEIGHBOUR: 'it returns false'. Refute it at one input. -/
def fnExactRunPlanWrong : ChangeSpec := { name := "fnExactRunPlan", fn := fun _ => fun
  | [d1, d2] => { results := [.lit (.bool false)], args := [d1, d2] }
  | _ => none }
def FnExactRunPlanWrongFalsely : Prop := fnExactRunPlanRow.holds Try.pinned (OpenSpec.ofChange fnExactRunPlanWrong)

/-- 'laws.FnExactRunPlanRows': WHATEVER THE INPUT: true; the input reads as it did. -/
def fnExactRunPlanRowsSpec : ChangeSpec := { name := "fnExactRunPlanRows", fn := fun _ => fun
  | [d1, d2] => { results := [.lit (.bool true)], args := [d1, d2] }
  | _ => none }
def fnExactRunPlanRowsRow : OpenClaim := { program := "ytangnigplachdaa", sum := "60e8ce0a20fd62b5fc99eae5dba25b5d10453742b1b3c223c55efcf06c088d6a", func := "loop.example/g01157/laws.FnExactRunPlanRows", spec := "fnExactRunPlanRows", inPlace := ["math.Float64frombits", "math.sqrt"], apart := false }
def FnExactRunPlanRowsSaid : Prop := fnExactRunPlanRowsRow.holds Try.pinned (OpenSpec.ofChange fnExactRunPlanRowsSpec)

/-- ITS FALSE NEIGHBOUR: 'it returns false'. Refute it at one input. -/
def fnExactRunPlanRowsWrong : ChangeSpec := { name := "fnExactRunPlanRows", fn := fun _ => fun
  | [d1, d2] => { results := [.lit (.bool false)], args := [d1, d2] }
  | _ => none }
def FnExactRunPlanRowsWrongFalsely : Prop := fnExactRunPlanRowsRow.holds Try.pinned (OpenSpec.ofChange fnExactRunPlanRowsWrong)

/-- 'laws.FnExactServeRequests': WHATEVER THE INPUT: true; the input reads as it did. -/
def fnExactServeRequestsSpec : ChangeSpec := { name := "fnExactServeRequests", fn := fun _ => fun
  | [d1, d2, d3, d4, d5] => { results := [.lit (.bool true)], args := [d1, d2, d3, d4, d5] }
  | _ => none }
def fnExactServeRequestsRow : OpenClaim := { program := "ytangnigplachdaa", sum := "60e8ce0a20fd62b5fc99eae5dba25b5d10453742b1b3c223c55efcf06c088d6a", func := "loop.example/g01157/laws.FnExactServeRequests", spec := "fnExactServeRequests", inPlace := ["math.Float64frombits", "math.sqrt"], apart := false }
def FnExactServeRequestsSaid : Prop := fnExactServeRequestsRow.holds Try.pinned (OpenSpec.ofChange fnExactServeRequestsSpec)

/-- ITS FALSE NEIGHBOUR: 'it returns false'. Refute it at one input. -/
def fnExactServeRequestsWrong : ChangeSpec := { name := "fnExactServeRequests", fn := fun _ => fun
  | [d1, d2, d3, d4, d5] => { results := [.lit (.bool false)], args := [d1, d2, d3, d4, d5] }
  | _ => none }
def FnExactServeRequestsWrongFalsely : Prop := fnExactServeRequestsRow.holds Try.pinned (OpenSpec.ofChange fnExactServeRequestsWrong)

/-- 'laws.FnExactConfusionOf': WHATEVER THE INPUT: true; the input reads as it did. -/
def fnExactConfusionOfSpec : ChangeSpec := { name := "fnExactConfusionOf", fn := fun _ => fun
  | [d1, d2, d3] => { results := [.lit (.bool true)], args := [d1, d2, d3] }
  | _ => none }
def fnExactConfusionOfRow : OpenClaim := { program := "ytangnigplachdaa", sum := "60e8ce0a20fd62b5fc99eae5dba25b5d10453742b1b3c223c55efcf06c088d6a", func := "loop.example/g01157/laws.FnExactConfusionOf", spec := "fnExactConfusionOf", inPlace := ["math.Float64frombits", "math.sqrt"], unfollowed := true, recurses := true, apart := false }
def FnExactConfusionOfSaid : Prop := fnExactConfusionOfRow.holds Try.pinned (OpenSpec.ofChange fnExactConfusionOfSpec)

/-- ITS FALSE NEIGHBOUR: 'it returns false'. Refute it at one input. -/
def fnExactConfusionOfWrong : ChangeSpec := { name := "fnExactConfusionOf", fn := fun _ => fun
  | [d1, d2, d3] => { results := [.lit (.bool false)], args := [d1, d2, d3] }
  | _ => none }
def FnExactConfusionOfWrongFalsely : Prop := fnExactConfusionOfRow.holds Try.pinned (OpenSpec.ofChange fnExactConfusionOfWrong)

/-- 'laws.FnExactSplitModel': WHATEVER THE INPUT: true; the input reads as it did. -/
def fnExactSplitModelSpec : ChangeSpec := { name := "fnExactSplitModel", fn := fun _ => fun
  | [d1, d2] => { results := [.lit (.bool true)], args := [d1, d2] }
  | _ => none }
def fnExactSplitModelRow : OpenClaim := { program := "ytangnigplachdaa", sum := "60e8ce0a20fd62b5fc99eae5dba25b5d10453742b1b3c223c55efcf06c088d6a", func := "loop.example/g01157/laws.FnExactSplitModel", spec := "fnExactSplitModel", apart := false }
def FnExactSplitModelSaid : Prop := fnExactSplitModelRow.holds Try.pinned (OpenSpec.ofChange fnExactSplitModelSpec)

/-- ITS FALSE NEIGHBOUR: 'it returns false'. Refute it at one input. -/
def fnExactSplitModelWrong : ChangeSpec := { name := "fnExactSplitModel", fn := fun _ => fun
  | [d1, d2] => { results := [.lit (.bool false)], args := [d1, d2] }
  | _ => none }
def FnExactSplitModelWrongFalsely : Prop := fnExactSplitModelRow.holds Try.pinned (OpenSpec.ofChange fnExactSplitModelWrong)

/-- 'laws.FnExactJoinModels': WHATEVER THE INPUT: true; the input reads as it did. -/
def fnExactJoinModelsSpec : ChangeSpec := { name := "fnExactJoinModels", fn := fun _ => fun
  | [d1, d2] => { results := [.lit (.bool true)], args := [d1, d2] }
  | _ => none }
def fnExactJoinModelsRow : OpenClaim := { program := "ytangnigplachdaa", sum := "60e8ce0a20fd62b5fc99eae5dba25b5d10453742b1b3c223c55efcf06c088d6a", func := "loop.example/g01157/laws.FnExactJoinModels", spec := "fnExactJoinModels", apart := false }
def FnExactJoinModelsSaid : Prop := fnExactJoinModelsRow.holds Try.pinned (OpenSpec.ofChange fnExactJoinModelsSpec)

/-- ITS FALSE NEIGHBOUR: 'it returns false'. Refute it at one input. -/
def fnExactJoinModelsWrong : ChangeSpec := { name := "fnExactJoinModels", fn := fun _ => fun
  | [d1, d2] => { results := [.lit (.bool false)], args := [d1, d2] }
  | _ => none }
def FnExactJoinModelsWrongFalsely : Prop := fnExactJoinModelsRow.holds Try.pinned (OpenSpec.ofChange fnExactJoinModelsWrong)

/-- 'laws.FnExactChangedNumbers': WHATEVER THE INPUT: true; the input reads as it did. -/
def fnExactChangedNumbersSpec : ChangeSpec := { name := "fnExactChangedNumbers", fn := fun _ => fun
  | [d1, d2] => { results := [.lit (.bool true)], args := [d1, d2] }
  | _ => none }
def fnExactChangedNumbersRow : OpenClaim := { program := "ytangnigplachdaa", sum := "60e8ce0a20fd62b5fc99eae5dba25b5d10453742b1b3c223c55efcf06c088d6a", func := "loop.example/g01157/laws.FnExactChangedNumbers", spec := "fnExactChangedNumbers", inPlace := ["math.Float32bits", "math.Float64bits"], apart := false }
def FnExactChangedNumbersSaid : Prop := fnExactChangedNumbersRow.holds Try.pinned (OpenSpec.ofChange fnExactChangedNumbersSpec)

/-- ITS FALSE NEIGHBOUR: 'it returns false'. Refute it at one input. -/
def fnExactChangedNumbersWrong : ChangeSpec := { name := "fnExactChangedNumbers", fn := fun _ => fun
  | [d1, d2] => { results := [.lit (.bool false)], args := [d1, d2] }
  | _ => none }
def FnExactChangedNumbersWrongFalsely : Prop := fnExactChangedNumbersRow.holds Try.pinned (OpenSpec.ofChange fnExactChangedNumbersWrong)

/- THE SECOND FORM. 'bulk': how many values and letters a reading holds, each counted each time it is reached (what is shared counts as often as it is met; a slice's spare places count too). A statement '..UptoSaid' is the law's where the arguments, and the package variables that the reading takes, are together of bulk at most 1048576: NARROWER than '..Said'. Prove '..Said' where nothing that the law and all that it calls make is longer than what came in: it says more and counts as full. Else prove '..UptoSaid'. A law counts once. -/
mutual
def uptoBulk {H : Type} : DataW H → Nat
  | .lit (.string bytes) => bytes.length + 1
  | .lit _ => 1
  | .nil => 1
  | .ptr d => uptoBulk d + 1
  | .slice elems spare => uptoBulkAll elems + uptoBulkAll spare + 1
  | .agg parts => uptoBulkAll parts + 1
  | .iface _ d => uptoBulk d + 1
  | .map entries => uptoBulkEntries entries + 1
  | .held _ => 1
def uptoBulkAll {H : Type} : List (DataW H) → Nat
  | [] => 0
  | d :: r => uptoBulk d + uptoBulkAll r
def uptoBulkEntries {H : Type} : List (Lit × DataW H) → Nat
  | [] => 0
  | x :: r => uptoBulkEntry x + uptoBulkEntries r
def uptoBulkEntry {H : Type} : Lit × DataW H → Nat
  | (.string bytes, d) => bytes.length + uptoBulk d + 1
  | (_, d) => uptoBulk d + 1
 end
def uptoSmall : (H : Type) → List (DataW H) → Bool := fun _ ds => decide (uptoBulkAll ds ≤ 1048576)
def OpenSpec.upto (s : _root_.Go.ChangeSpec) : _root_.Go.OpenSpec := { _root_.Go.OpenSpec.ofChange s with cond := some uptoSmall }

/-- 'laws.FnExactStagesOf', WHERE WHAT IT READS IS OF BULK AT MOST 1048576: true; the input reads as it did. -/
def fnExactStagesOfUptoRow : OpenClaim := { program := "ytangnigplachdaa", sum := "60e8ce0a20fd62b5fc99eae5dba25b5d10453742b1b3c223c55efcf06c088d6a", func := "loop.example/g01157/laws.FnExactStagesOf", spec := "fnExactStagesOf", inPlace := ["math.Float64frombits", "math.sqrt"], apart := false, narrowed := true }
def FnExactStagesOfUptoSaid : Prop := fnExactStagesOfUptoRow.holds Try.pinned (OpenSpec.upto fnExactStagesOfSpec)

/-- 'laws.FnExactRunModel', WHERE WHAT IT READS IS OF BULK AT MOST 1048576: true; the input reads as it did. -/
def fnExactRunModelUptoRow : OpenClaim := { program := "ytangnigplachdaa", sum := "60e8ce0a20fd62b5fc99eae5dba25b5d10453742b1b3c223c55efcf06c088d6a", func := "loop.example/g01157/laws.FnExactRunModel", spec := "fnExactRunModel", inPlace := ["math.Float64frombits", "math.sqrt"], apart := false, narrowed := true }
def FnExactRunModelUptoSaid : Prop := fnExactRunModelUptoRow.holds Try.pinned (OpenSpec.upto fnExactRunModelSpec)

/-- 'laws.FnExactCountCorrect', WHERE WHAT IT READS IS OF BULK AT MOST 1048576: true; the input reads as it did. -/
def fnExactCountCorrectUptoRow : OpenClaim := { program := "ytangnigplachdaa", sum := "60e8ce0a20fd62b5fc99eae5dba25b5d10453742b1b3c223c55efcf06c088d6a", func := "loop.example/g01157/laws.FnExactCountCorrect", spec := "fnExactCountCorrect", inPlace := ["math.Float64frombits", "math.sqrt"], apart := false, narrowed := true }
def FnExactCountCorrectUptoSaid : Prop := fnExactCountCorrectUptoRow.holds Try.pinned (OpenSpec.upto fnExactCountCorrectSpec)

/-- 'laws.FnExactCountLabels', WHERE WHAT IT READS IS OF BULK AT MOST 1048576: true; the input reads as it did. -/
def fnExactCountLabelsUptoRow : OpenClaim := { program := "ytangnigplachdaa", sum := "60e8ce0a20fd62b5fc99eae5dba25b5d10453742b1b3c223c55efcf06c088d6a", func := "loop.example/g01157/laws.FnExactCountLabels", spec := "fnExactCountLabels", inPlace := ["math.Float64frombits", "math.sqrt"], unfollowed := true, recurses := true, apart := false, narrowed := true }
def FnExactCountLabelsUptoSaid : Prop := fnExactCountLabelsUptoRow.holds Try.pinned (OpenSpec.upto fnExactCountLabelsSpec)

/-- 'laws.FnExactRunPlan', WHERE WHAT IT READS IS OF BULK AT MOST 1048576: true; the input reads as it did. -/
def fnExactRunPlanUptoRow : OpenClaim := { program := "ytangnigplachdaa", sum := "60e8ce0a20fd62b5fc99eae5dba25b5d10453742b1b3c223c55efcf06c088d6a", func := "loop.example/g01157/laws.FnExactRunPlan", spec := "fnExactRunPlan", inPlace := ["math.Float64frombits", "math.sqrt"], apart := false, narrowed := true }
def FnExactRunPlanUptoSaid : Prop := fnExactRunPlanUptoRow.holds Try.pinned (OpenSpec.upto fnExactRunPlanSpec)

/-- 'laws.FnExactRunPlanRows', WHERE WHAT IT READS IS OF BULK AT MOST 1048576: true; the input reads as it did. -/
def fnExactRunPlanRowsUptoRow : OpenClaim := { program := "ytangnigplachdaa", sum := "60e8ce0a20fd62b5fc99eae5dba25b5d10453742b1b3c223c55efcf06c088d6a", func := "loop.example/g01157/laws.FnExactRunPlanRows", spec := "fnExactRunPlanRows", inPlace := ["math.Float64frombits", "math.sqrt"], apart := false, narrowed := true }
def FnExactRunPlanRowsUptoSaid : Prop := fnExactRunPlanRowsUptoRow.holds Try.pinned (OpenSpec.upto fnExactRunPlanRowsSpec)

/-- 'laws.FnExactServeRequests', WHERE WHAT IT READS IS OF BULK AT MOST 1048576: true; the input reads as it did. -/
def fnExactServeRequestsUptoRow : OpenClaim := { program := "ytangnigplachdaa", sum := "60e8ce0a20fd62b5fc99eae5dba25b5d10453742b1b3c223c55efcf06c088d6a", func := "loop.example/g01157/laws.FnExactServeRequests", spec := "fnExactServeRequests", inPlace := ["math.Float64frombits", "math.sqrt"], apart := false, narrowed := true }
def FnExactServeRequestsUptoSaid : Prop := fnExactServeRequestsUptoRow.holds Try.pinned (OpenSpec.upto fnExactServeRequestsSpec)

/-- 'laws.FnExactConfusionOf', WHERE WHAT IT READS IS OF BULK AT MOST 1048576: true; the input reads as it did. -/
def fnExactConfusionOfUptoRow : OpenClaim := { program := "ytangnigplachdaa", sum := "60e8ce0a20fd62b5fc99eae5dba25b5d10453742b1b3c223c55efcf06c088d6a", func := "loop.example/g01157/laws.FnExactConfusionOf", spec := "fnExactConfusionOf", inPlace := ["math.Float64frombits", "math.sqrt"], unfollowed := true, recurses := true, apart := false, narrowed := true }
def FnExactConfusionOfUptoSaid : Prop := fnExactConfusionOfUptoRow.holds Try.pinned (OpenSpec.upto fnExactConfusionOfSpec)

/-- 'laws.FnExactSplitModel', WHERE WHAT IT READS IS OF BULK AT MOST 1048576: true; the input reads as it did. -/
def fnExactSplitModelUptoRow : OpenClaim := { program := "ytangnigplachdaa", sum := "60e8ce0a20fd62b5fc99eae5dba25b5d10453742b1b3c223c55efcf06c088d6a", func := "loop.example/g01157/laws.FnExactSplitModel", spec := "fnExactSplitModel", apart := false, narrowed := true }
def FnExactSplitModelUptoSaid : Prop := fnExactSplitModelUptoRow.holds Try.pinned (OpenSpec.upto fnExactSplitModelSpec)

/-- 'laws.FnExactJoinModels', WHERE WHAT IT READS IS OF BULK AT MOST 1048576: true; the input reads as it did. -/
def fnExactJoinModelsUptoRow : OpenClaim := { program := "ytangnigplachdaa", sum := "60e8ce0a20fd62b5fc99eae5dba25b5d10453742b1b3c223c55efcf06c088d6a", func := "loop.example/g01157/laws.FnExactJoinModels", spec := "fnExactJoinModels", apart := false, narrowed := true }
def FnExactJoinModelsUptoSaid : Prop := fnExactJoinModelsUptoRow.holds Try.pinned (OpenSpec.upto fnExactJoinModelsSpec)

/-- 'laws.FnExactChangedNumbers', WHERE WHAT IT READS IS OF BULK AT MOST 1048576: true; the input reads as it did. -/
def fnExactChangedNumbersUptoRow : OpenClaim := { program := "ytangnigplachdaa", sum := "60e8ce0a20fd62b5fc99eae5dba25b5d10453742b1b3c223c55efcf06c088d6a", func := "loop.example/g01157/laws.FnExactChangedNumbers", spec := "fnExactChangedNumbers", inPlace := ["math.Float32bits", "math.Float64bits"], apart := false, narrowed := true }
def FnExactChangedNumbersUptoSaid : Prop := fnExactChangedNumbersUptoRow.holds Try.pinned (OpenSpec.upto fnExactChangedNumbersSpec)

end Rows
end Go.Proofs.Ytangnigplachdaa
