/-
  No cell of these rows narrows 'for every input' (looked for: loops, veiled, ifaces, maps, wideKeys, modest, calm, conditions, laid).
  DERIVED. THE GIVEN ROWS OF THIS SEAT. 11 by the template 'for every input the law returns true; each argument reads behind the call as it read before'; 0 by the template 'total and deterministic' (their statements: YtnlhahlegedlaaaTotals.lean).
  GIVEN WITH THE SEED: the statements are not yours to turn. If you find one false, say at which input.
  Laid BY PROGRAM, IN A SANDBOX (cutbox-rows.mjs): the forced cells as the released guide's own fill.sh prints them over the translation 4d9258eb00cf6d85… (all of the seat's roots in one cut). By AI agents, Wed Nov 11 2026. No macro, syntax, notation, axiom, sorry.
-/
import Derived.Test.YtnlhahlegedlaaaChecked
import GoSem.Claim
import GoSem.ClaimJoined
import GoSem.ClaimMapViews
import Derived.JoinedTies
import Derived.KernelRfl
namespace Go.Proofs.Ytnlhahlegedlaaa
/- THE CELL 'sum', in the pinned program and in every row, IS THE sha256 OF THE DUMP (.gsa) THAT YtnlhahlegedlaaaProg.lean LOADS. Nothing in Lean hashes anything: it is a label: what it is worth is what the hold of that sum in a sandbox is worth. -/
noncomputable def Try.pinned : Pinned := { name := "ytnlhahlegedlaaa", sum := "4d9258eb00cf6d85df3d3f94d3aec5f83f2b666265662b06fbbeffa77aa2fd09", checked := Try.checked }
namespace Rows
def none {H : Type} : Left H := { results := [], args := [] }

/-- 'laws.FnExactChangedNumbers': WHATEVER THE INPUT: true; the input reads as it did. -/
def fnExactChangedNumbersSpec : ChangeSpec := { name := "fnExactChangedNumbers", fn := fun _ => fun
  | [d1, d2] => { results := [.lit (.bool true)], args := [d1, d2] }
  | _ => none }
def fnExactChangedNumbersRow : OpenClaim := { program := "ytnlhahlegedlaaa", sum := "4d9258eb00cf6d85df3d3f94d3aec5f83f2b666265662b06fbbeffa77aa2fd09", func := "loop.example/g01157/laws.FnExactChangedNumbers", spec := "fnExactChangedNumbers", inPlace := ["math.Float32bits", "math.Float64bits"], apart := false }
def FnExactChangedNumbersSaid : Prop := fnExactChangedNumbersRow.holds Try.pinned (OpenSpec.ofChange fnExactChangedNumbersSpec)

/-- ITS FALSE NEIGHBOUR: 'it returns false'. Refute it at one input. -/
def fnExactChangedNumbersWrong : ChangeSpec := { name := "fnExactChangedNumbers", fn := fun _ => fun
  | [d1, d2] => { results := [.lit (.bool false)], args := [d1, d2] }
  | _ => none }
def FnExactChangedNumbersWrongFalsely : Prop := fnExactChangedNumbersRow.holds Try.pinned (OpenSpec.ofChange fnExactChangedNumbersWrong)

/-- 'laws.FnExactNewLab': WHATEVER THE INPUT: true; the input reads as it did. -/
def fnExactNewLabSpec : ChangeSpec := { name := "fnExactNewLab", fn := fun _ => fun
  | [] => { results := [.lit (.bool true)], args := [] }
  | _ => none }
def fnExactNewLabRow : OpenClaim := { program := "ytnlhahlegedlaaa", sum := "4d9258eb00cf6d85df3d3f94d3aec5f83f2b666265662b06fbbeffa77aa2fd09", func := "loop.example/g01157/laws.FnExactNewLab", spec := "fnExactNewLab", unfollowed := true, recurses := true, apart := false }
def FnExactNewLabSaid : Prop := fnExactNewLabRow.holds Try.pinned (OpenSpec.ofChange fnExactNewLabSpec)

/-- ITS FALSE NEIGHBOUR: 'it returns false'. Refute it at one input. -/
def fnExactNewLabWrong : ChangeSpec := { name := "fnExactNewLab", fn := fun _ => fun
  | [] => { results := [.lit (.bool false)], args := [] }
  | _ => none }
def FnExactNewLabWrongFalsely : Prop := fnExactNewLabRow.holds Try.pinned (OpenSpec.ofChange fnExactNewLabWrong)

/-- 'laws.FnExactValidLab': WHATEVER THE INPUT: true; the input reads as it did. -/
def fnExactValidLabSpec : ChangeSpec := { name := "fnExactValidLab", fn := fun _ => fun
  | [d] => { results := [.lit (.bool true)], args := [d] }
  | _ => none }
def fnExactValidLabRow : OpenClaim := { program := "ytnlhahlegedlaaa", sum := "4d9258eb00cf6d85df3d3f94d3aec5f83f2b666265662b06fbbeffa77aa2fd09", func := "loop.example/g01157/laws.FnExactValidLab", spec := "fnExactValidLab", unfollowed := true, recurses := true, apart := false }
def FnExactValidLabSaid : Prop := fnExactValidLabRow.holds Try.pinned (OpenSpec.ofChange fnExactValidLabSpec)

/-- ITS FALSE NEIGHBOUR: 'it returns false'. Refute it at one input. -/
def fnExactValidLabWrong : ChangeSpec := { name := "fnExactValidLab", fn := fun _ => fun
  | [d] => { results := [.lit (.bool false)], args := [d] }
  | _ => none }
def FnExactValidLabWrongFalsely : Prop := fnExactValidLabRow.holds Try.pinned (OpenSpec.ofChange fnExactValidLabWrong)

/-- 'laws.FnExactRunLayer': WHATEVER THE INPUT: true; the input reads as it did. -/
def fnExactRunLayerSpec : ChangeSpec := { name := "fnExactRunLayer", fn := fun _ => fun
  | [d1, d2] => { results := [.lit (.bool true)], args := [d1, d2] }
  | _ => none }
def fnExactRunLayerRow : OpenClaim := { program := "ytnlhahlegedlaaa", sum := "4d9258eb00cf6d85df3d3f94d3aec5f83f2b666265662b06fbbeffa77aa2fd09", func := "loop.example/g01157/laws.FnExactRunLayer", spec := "fnExactRunLayer", inPlace := ["math.Float64frombits", "math.sqrt"], apart := false }
def FnExactRunLayerSaid : Prop := fnExactRunLayerRow.holds Try.pinned (OpenSpec.ofChange fnExactRunLayerSpec)

/-- ITS FALSE NEIGHBOUR: 'it returns false'. Refute it at one input. -/
def fnExactRunLayerWrong : ChangeSpec := { name := "fnExactRunLayer", fn := fun _ => fun
  | [d1, d2] => { results := [.lit (.bool false)], args := [d1, d2] }
  | _ => none }
def FnExactRunLayerWrongFalsely : Prop := fnExactRunLayerRow.holds Try.pinned (OpenSpec.ofChange fnExactRunLayerWrong)

/-- 'laws.FnExactNewTraining': WHATEVER THE INPUT: true; the input reads as it did. -/
def fnExactNewTrainingSpec : ChangeSpec := { name := "fnExactNewTraining", fn := fun _ => fun
  | [d1, d2, d3] => { results := [.lit (.bool true)], args := [d1, d2, d3] }
  | _ => none }
def fnExactNewTrainingRow : OpenClaim := { program := "ytnlhahlegedlaaa", sum := "4d9258eb00cf6d85df3d3f94d3aec5f83f2b666265662b06fbbeffa77aa2fd09", func := "loop.example/g01157/laws.FnExactNewTraining", spec := "fnExactNewTraining", unfollowed := true, recurses := true, apart := false }
def FnExactNewTrainingSaid : Prop := fnExactNewTrainingRow.holds Try.pinned (OpenSpec.ofChange fnExactNewTrainingSpec)

/-- ITS FALSE NEIGHBOUR: 'it returns false'. Refute it at one input. -/
def fnExactNewTrainingWrong : ChangeSpec := { name := "fnExactNewTraining", fn := fun _ => fun
  | [d1, d2, d3] => { results := [.lit (.bool false)], args := [d1, d2, d3] }
  | _ => none }
def FnExactNewTrainingWrongFalsely : Prop := fnExactNewTrainingRow.holds Try.pinned (OpenSpec.ofChange fnExactNewTrainingWrong)

/-- 'laws.FnServed': WHATEVER THE INPUT: true; the input reads as it did. -/
def fnServedSpec : ChangeSpec := { name := "fnServed", fn := fun _ => fun
  | [d1, d2] => { results := [.lit (.bool true)], args := [d1, d2] }
  | _ => none }
def fnServedRow : OpenClaim := { program := "ytnlhahlegedlaaa", sum := "4d9258eb00cf6d85df3d3f94d3aec5f83f2b666265662b06fbbeffa77aa2fd09", func := "loop.example/g01157/laws.FnServed", spec := "fnServed", inPlace := ["math.Float32frombits", "math.Float64frombits", "math.sqrt", "math.Float64bits"], apart := false }
def FnServedSaid : Prop := fnServedRow.holds Try.pinned (OpenSpec.ofChange fnServedSpec)

/-- ITS FALSE NEIGHBOUR: 'it returns false'. Refute it at one input. -/
def fnServedWrong : ChangeSpec := { name := "fnServed", fn := fun _ => fun
  | [d1, d2] => { results := [.lit (.bool false)], args := [d1, d2] }
  | _ => none }
def FnServedWrongFalsely : Prop := fnServedRow.holds Try.pinned (OpenSpec.ofChange fnServedWrong)

/-- 'laws.FnRowsAlone': WHATEVER THE INPUT: true; the input reads as it did. -/
def fnRowsAloneSpec : ChangeSpec := { name := "fnRowsAlone", fn := fun _ => fun
  | [d1, d2] => { results := [.lit (.bool true)], args := [d1, d2] }
  | _ => none }
def fnRowsAloneRow : OpenClaim := { program := "ytnlhahlegedlaaa", sum := "4d9258eb00cf6d85df3d3f94d3aec5f83f2b666265662b06fbbeffa77aa2fd09", func := "loop.example/g01157/laws.FnRowsAlone", spec := "fnRowsAlone", inPlace := ["math.Float32frombits", "math.Float64frombits", "math.sqrt", "math.Float32bits"], unfollowed := true, recurses := true, apart := false }
def FnRowsAloneSaid : Prop := fnRowsAloneRow.holds Try.pinned (OpenSpec.ofChange fnRowsAloneSpec)

/-- ITS FALSE NEIGHBOUR: 'it returns false'. Refute it at one input. -/
def fnRowsAloneWrong : ChangeSpec := { name := "fnRowsAlone", fn := fun _ => fun
  | [d1, d2] => { results := [.lit (.bool false)], args := [d1, d2] }
  | _ => none }
def FnRowsAloneWrongFalsely : Prop := fnRowsAloneRow.holds Try.pinned (OpenSpec.ofChange fnRowsAloneWrong)

/-- 'laws.FnExactStagesOf': WHATEVER THE INPUT: true; the input reads as it did. -/
def fnExactStagesOfSpec : ChangeSpec := { name := "fnExactStagesOf", fn := fun _ => fun
  | [d1, d2] => { results := [.lit (.bool true)], args := [d1, d2] }
  | _ => none }
def fnExactStagesOfRow : OpenClaim := { program := "ytnlhahlegedlaaa", sum := "4d9258eb00cf6d85df3d3f94d3aec5f83f2b666265662b06fbbeffa77aa2fd09", func := "loop.example/g01157/laws.FnExactStagesOf", spec := "fnExactStagesOf", inPlace := ["math.Float64frombits", "math.sqrt"], apart := false }
def FnExactStagesOfSaid : Prop := fnExactStagesOfRow.holds Try.pinned (OpenSpec.ofChange fnExactStagesOfSpec)

/-- ITS FALSE NEIGHBOUR: 'it returns false'. Refute it at one input. -/
def fnExactStagesOfWrong : ChangeSpec := { name := "fnExactStagesOf", fn := fun _ => fun
  | [d1, d2] => { results := [.lit (.bool false)], args := [d1, d2] }
  | _ => none }
def FnExactStagesOfWrongFalsely : Prop := fnExactStagesOfRow.holds Try.pinned (OpenSpec.ofChange fnExactStagesOfWrong)

/-- 'laws.FnFused': WHATEVER THE INPUT: true; the input reads as it did. -/
def fnFusedSpec : ChangeSpec := { name := "fnFused", fn := fun _ => fun
  | [d1, d2] => { results := [.lit (.bool true)], args := [d1, d2] }
  | _ => none }
def fnFusedRow : OpenClaim := { program := "ytnlhahlegedlaaa", sum := "4d9258eb00cf6d85df3d3f94d3aec5f83f2b666265662b06fbbeffa77aa2fd09", func := "loop.example/g01157/laws.FnFused", spec := "fnFused", inPlace := ["math.Float64frombits", "math.sqrt", "math.Float64bits", "math.archTrunc", "math.Float32frombits", "math.Float32bits"], unfollowed := true, recurses := true, apart := false }
def FnFusedSaid : Prop := fnFusedRow.holds Try.pinned (OpenSpec.ofChange fnFusedSpec)

/-- ITS FALSE NEIGHBOUR: 'it returns false'. Refute it at one input. -/
def fnFusedWrong : ChangeSpec := { name := "fnFused", fn := fun _ => fun
  | [d1, d2] => { results := [.lit (.bool false)], args := [d1, d2] }
  | _ => none }
def FnFusedWrongFalsely : Prop := fnFusedRow.holds Try.pinned (OpenSpec.ofChange fnFusedWrong)

/-- 'laws.FnExactRunModel': WHATEVER THE INPUT: true; the input reads as it did. -/
def fnExactRunModelSpec : ChangeSpec := { name := "fnExactRunModel", fn := fun _ => fun
  | [d1, d2] => { results := [.lit (.bool true)], args := [d1, d2] }
  | _ => none }
def fnExactRunModelRow : OpenClaim := { program := "ytnlhahlegedlaaa", sum := "4d9258eb00cf6d85df3d3f94d3aec5f83f2b666265662b06fbbeffa77aa2fd09", func := "loop.example/g01157/laws.FnExactRunModel", spec := "fnExactRunModel", inPlace := ["math.Float64frombits", "math.sqrt"], apart := false }
def FnExactRunModelSaid : Prop := fnExactRunModelRow.holds Try.pinned (OpenSpec.ofChange fnExactRunModelSpec)

/-- ITS FALSE NEIGHBOUR: 'it returns false'. Refute it at one input. -/
def fnExactRunModelWrong : ChangeSpec := { name := "fnExactRunModel", fn := fun _ => fun
  | [d1, d2] => { results := [.lit (.bool false)], args := [d1, d2] }
  | _ => none }
def FnExactRunModelWrongFalsely : Prop := fnExactRunModelRow.holds Try.pinned (OpenSpec.ofChange fnExactRunModelWrong)

/-- 'laws.FnExactCountCorrect': WHATEVER THE INPUT: true; the input reads as it did. -/
def fnExactCountCorrectSpec : ChangeSpec := { name := "fnExactCountCorrect", fn := fun _ => fun
  | [d1, d2] => { results := [.lit (.bool true)], args := [d1, d2] }
  | _ => none }
def fnExactCountCorrectRow : OpenClaim := { program := "ytnlhahlegedlaaa", sum := "4d9258eb00cf6d85df3d3f94d3aec5f83f2b666265662b06fbbeffa77aa2fd09", func := "loop.example/g01157/laws.FnExactCountCorrect", spec := "fnExactCountCorrect", inPlace := ["math.Float64frombits", "math.sqrt"], apart := false }
def FnExactCountCorrectSaid : Prop := fnExactCountCorrectRow.holds Try.pinned (OpenSpec.ofChange fnExactCountCorrectSpec)

/-- ITS FALSE NEIGHBOUR: 'it returns false'. Refute it at one input. -/
def fnExactCountCorrectWrong : ChangeSpec := { name := "fnExactCountCorrect", fn := fun _ => fun
  | [d1, d2] => { results := [.lit (.bool false)], args := [d1, d2] }
  | _ => none }
def FnExactCountCorrectWrongFalsely : Prop := fnExactCountCorrectRow.holds Try.pinned (OpenSpec.ofChange fnExactCountCorrectWrong)

/- THE SECOND FORM. 'bulk': how many values and letters a reading holds, each counted each time it is reached (what is shared counts as often as it is met; a slice's spare places count too). A statement '..UptoSaid' is the law's where the arguments, and the package variables that the reading takes, are together of bulk at most 1048576: NARROWER than '..Said'. Prove '..Said' where nothing that the law and all that it calls make is longer than what came in: it says more and counts as full. Else prove '..UptoSaid'. A law counts once. -/
mutual
def uptoBulk {H : Type} : DataW H → Nat
  | .lit (.string bytes) => bytes.length + 1
  | .lit _ => 1
  | .nil => 1
  | .ptr d => uptoBulk d + 1
  | .slice elems spare => uptoBulkAll elems + uptoBulkAll spare + 1
  | .agg parts => uptoBulkAll parts + 1
  | .iface _ d => uptoBulk d + 1
  | .map entries => uptoBulkEntries entries + 1
  | .held _ => 1
def uptoBulkAll {H : Type} : List (DataW H) → Nat
  | [] => 0
  | d :: r => uptoBulk d + uptoBulkAll r
def uptoBulkEntries {H : Type} : List (Lit × DataW H) → Nat
  | [] => 0
  | x :: r => uptoBulkEntry x + uptoBulkEntries r
def uptoBulkEntry {H : Type} : Lit × DataW H → Nat
  | (.string bytes, d) => bytes.length + uptoBulk d + 1
  | (_, d) => uptoBulk d + 1
 end
def uptoSmall : (H : Type) → List (DataW H) → Bool := fun _ ds => decide (uptoBulkAll ds ≤ 1048576)
def OpenSpec.upto (s : _root_.Go.ChangeSpec) : _root_.Go.OpenSpec := { _root_.Go.OpenSpec.ofChange s with cond := some uptoSmall }

/-- 'laws.FnExactChangedNumbers', WHERE WHAT IT READS IS OF BULK AT MOST 1048576: true; the input reads as it did. -/
def fnExactChangedNumbersUptoRow : OpenClaim := { program := "ytnlhahlegedlaaa", sum := "4d9258eb00cf6d85df3d3f94d3aec5f83f2b666265662b06fbbeffa77aa2fd09", func := "loop.example/g01157/laws.FnExactChangedNumbers", spec := "fnExactChangedNumbers", inPlace := ["math.Float32bits", "math.Float64bits"], apart := false, narrowed := true }
def FnExactChangedNumbersUptoSaid : Prop := fnExactChangedNumbersUptoRow.holds Try.pinned (OpenSpec.upto fnExactChangedNumbersSpec)

/-- 'laws.FnExactNewLab', WHERE WHAT IT READS IS OF BULK AT MOST 1048576: true; the input reads as it did. -/
def fnExactNewLabUptoRow : OpenClaim := { program := "ytnlhahlegedlaaa", sum := "4d9258eb00cf6d85df3d3f94d3aec5f83f2b666265662b06fbbeffa77aa2fd09", func := "loop.example/g01157/laws.FnExactNewLab", spec := "fnExactNewLab", unfollowed := true, recurses := true, apart := false, narrowed := true }
def FnExactNewLabUptoSaid : Prop := fnExactNewLabUptoRow.holds Try.pinned (OpenSpec.upto fnExactNewLabSpec)

/-- 'laws.FnExactValidLab', WHERE WHAT IT READS IS OF BULK AT MOST 1048576: true; the input reads as it did. -/
def fnExactValidLabUptoRow : OpenClaim := { program := "ytnlhahlegedlaaa", sum := "4d9258eb00cf6d85df3d3f94d3aec5f83f2b666265662b06fbbeffa77aa2fd09", func := "loop.example/g01157/laws.FnExactValidLab", spec := "fnExactValidLab", unfollowed := true, recurses := true, apart := false, narrowed := true }
def FnExactValidLabUptoSaid : Prop := fnExactValidLabUptoRow.holds Try.pinned (OpenSpec.upto fnExactValidLabSpec)

/-- 'laws.FnExactRunLayer', WHERE WHAT IT READS IS OF BULK AT MOST 1048576: true; the input reads as it did. -/
def fnExactRunLayerUptoRow : OpenClaim := { program := "ytnlhahlegedlaaa", sum := "4d9258eb00cf6d85df3d3f94d3aec5f83f2b666265662b06fbbeffa77aa2fd09", func := "loop.example/g01157/laws.FnExactRunLayer", spec := "fnExactRunLayer", inPlace := ["math.Float64frombits", "math.sqrt"], apart := false, narrowed := true }
def FnExactRunLayerUptoSaid : Prop := fnExactRunLayerUptoRow.holds Try.pinned (OpenSpec.upto fnExactRunLayerSpec)

/-- 'laws.FnExactNewTraining', WHERE WHAT IT READS IS OF BULK AT MOST 1048576: true; the input reads as it did. -/
def fnExactNewTrainingUptoRow : OpenClaim := { program := "ytnlhahlegedlaaa", sum := "4d9258eb00cf6d85df3d3f94d3aec5f83f2b666265662b06fbbeffa77aa2fd09", func := "loop.example/g01157/laws.FnExactNewTraining", spec := "fnExactNewTraining", unfollowed := true, recurses := true, apart := false, narrowed := true }
def FnExactNewTrainingUptoSaid : Prop := fnExactNewTrainingUptoRow.holds Try.pinned (OpenSpec.upto fnExactNewTrainingSpec)

/-- 'laws.FnServed', WHERE WHAT IT READS IS OF BULK AT MOST 1048576: true; the input reads as it did. -/
def fnServedUptoRow : OpenClaim := { program := "ytnlhahlegedlaaa", sum := "4d9258eb00cf6d85df3d3f94d3aec5f83f2b666265662b06fbbeffa77aa2fd09", func := "loop.example/g01157/laws.FnServed", spec := "fnServed", inPlace := ["math.Float32frombits", "math.Float64frombits", "math.sqrt", "math.Float64bits"], apart := false, narrowed := true }
def FnServedUptoSaid : Prop := fnServedUptoRow.holds Try.pinned (OpenSpec.upto fnServedSpec)

/-- 'laws.FnRowsAlone', WHERE WHAT IT READS IS OF BULK AT MOST 1048576: true; the input reads as it did. -/
def fnRowsAloneUptoRow : OpenClaim := { program := "ytnlhahlegedlaaa", sum := "4d9258eb00cf6d85df3d3f94d3aec5f83f2b666265662b06fbbeffa77aa2fd09", func := "loop.example/g01157/laws.FnRowsAlone", spec := "fnRowsAlone", inPlace := ["math.Float32frombits", "math.Float64frombits", "math.sqrt", "math.Float32bits"], unfollowed := true, recurses := true, apart := false, narrowed := true }
def FnRowsAloneUptoSaid : Prop := fnRowsAloneUptoRow.holds Try.pinned (OpenSpec.upto fnRowsAloneSpec)

/-- 'laws.FnExactStagesOf', WHERE WHAT IT READS IS OF BULK AT MOST 1048576: true; the input reads as it did. -/
def fnExactStagesOfUptoRow : OpenClaim := { program := "ytnlhahlegedlaaa", sum := "4d9258eb00cf6d85df3d3f94d3aec5f83f2b666265662b06fbbeffa77aa2fd09", func := "loop.example/g01157/laws.FnExactStagesOf", spec := "fnExactStagesOf", inPlace := ["math.Float64frombits", "math.sqrt"], apart := false, narrowed := true }
def FnExactStagesOfUptoSaid : Prop := fnExactStagesOfUptoRow.holds Try.pinned (OpenSpec.upto fnExactStagesOfSpec)

/-- 'laws.FnFused', WHERE WHAT IT READS IS OF BULK AT MOST 1048576: true; the input reads as it did. -/
def fnFusedUptoRow : OpenClaim := { program := "ytnlhahlegedlaaa", sum := "4d9258eb00cf6d85df3d3f94d3aec5f83f2b666265662b06fbbeffa77aa2fd09", func := "loop.example/g01157/laws.FnFused", spec := "fnFused", inPlace := ["math.Float64frombits", "math.sqrt", "math.Float64bits", "math.archTrunc", "math.Float32frombits", "math.Float32bits"], unfollowed := true, recurses := true, apart := false, narrowed := true }
def FnFusedUptoSaid : Prop := fnFusedUptoRow.holds Try.pinned (OpenSpec.upto fnFusedSpec)

/-- 'laws.FnExactRunModel', WHERE WHAT IT READS IS OF BULK AT MOST 1048576: true; the input reads as it did. -/
def fnExactRunModelUptoRow : OpenClaim := { program := "ytnlhahlegedlaaa", sum := "4d9258eb00cf6d85df3d3f94d3aec5f83f2b666265662b06fbbeffa77aa2fd09", func := "loop.example/g01157/laws.FnExactRunModel", spec := "fnExactRunModel", inPlace := ["math.Float64frombits", "math.sqrt"], apart := false, narrowed := true }
def FnExactRunModelUptoSaid : Prop := fnExactRunModelUptoRow.holds Try.pinned (OpenSpec.upto fnExactRunModelSpec)

/-- 'laws.FnExactCountCorrect', WHERE WHAT IT READS IS OF BULK AT MOST 1048576: true; the input reads as it did. -/
def fnExactCountCorrectUptoRow : OpenClaim := { program := "ytnlhahlegedlaaa", sum := "4d9258eb00cf6d85df3d3f94d3aec5f83f2b666265662b06fbbeffa77aa2fd09", func := "loop.example/g01157/laws.FnExactCountCorrect", spec := "fnExactCountCorrect", inPlace := ["math.Float64frombits", "math.sqrt"], apart := false, narrowed := true }
def FnExactCountCorrectUptoSaid : Prop := fnExactCountCorrectUptoRow.holds Try.pinned (OpenSpec.upto fnExactCountCorrectSpec)

end Rows
end Go.Proofs.Ytnlhahlegedlaaa
