/-
  No cell of these rows narrows 'for every input' (looked for: loops, veiled, ifaces, maps, wideKeys, modest, calm, conditions, laid).
  DERIVED. THE GIVEN ROWS OF THIS SEAT. 11 by the template 'for every input the law returns true; each argument reads behind the call as it read before'; 0 by the template 'total and deterministic' (their statements: YtmcafdcabbighaaTotals.lean).
  GIVEN WITH THE SEED: the statements are not yours to turn. If you find one false, say at which input.
  Laid BY PROGRAM, IN A SANDBOX (cutbox-rows.mjs): the forced cells as the released guide's own fill.sh prints them over the translation 033be4f7dcd5ce35… (all of the seat's roots in one cut). By AI agents, Wed Nov 11 2026. No macro, syntax, notation, axiom, sorry.
-/
import Derived.Test.YtmcafdcabbighaaChecked
import GoSem.Claim
import GoSem.ClaimJoined
import GoSem.ClaimMapViews
import Derived.JoinedTies
import Derived.KernelRfl
namespace Go.Proofs.Ytmcafdcabbighaa
/- THE CELL 'sum', in the pinned program and in every row, IS THE sha256 OF THE DUMP (.gsa) THAT YtmcafdcabbighaaProg.lean LOADS. Nothing in Lean hashes anything: it is a label: what it is worth is what the hold of that sum in a sandbox is worth. -/
noncomputable def Try.pinned : Pinned := { name := "ytmcafdcabbighaa", sum := "033be4f7dcd5ce35760a6bbb54c53d389954aae6ebea8d656c22c7898ab13bcb", checked := Try.checked }
namespace Rows
def none {H : Type} : Left H := { results := [], args := [] }

/-- 'laws.FnExactArchiveOf': WHATEVER THE INPUT: true; the input reads as it did. -/
def fnExactArchiveOfSpec : ChangeSpec := { name := "fnExactArchiveOf", fn := fun _ => fun
  | [d] => { results := [.lit (.bool true)], args := [d] }
  | _ => none }
def fnExactArchiveOfRow : OpenClaim := { program := "ytmcafdcabbighaa", sum := "033be4f7dcd5ce35760a6bbb54c53d389954aae6ebea8d656c22c7898ab13bcb", func := "loop.example/g01157/laws.FnExactArchiveOf", spec := "fnExactArchiveOf", apart := false }
def FnExactArchiveOfSaid : Prop := fnExactArchiveOfRow.holds Try.pinned (OpenSpec.ofChange fnExactArchiveOfSpec)

/-- ITS FALSE NEIGHBOUR: 'it returns false'. Refute it at one input. -/
def fnExactArchiveOfWrong : ChangeSpec := { name := "fnExactArchiveOf", fn := fun _ => fun
  | [d] => { results := [.lit (.bool false)], args := [d] }
  | _ => none }
def FnExactArchiveOfWrongFalsely : Prop := fnExactArchiveOfRow.holds Try.pinned (OpenSpec.ofChange fnExactArchiveOfWrong)

/-- 'laws.FnExactShuffleRows': WHATEVER THE INPUT: true; the input reads as it did. -/
def fnExactShuffleRowsSpec : ChangeSpec := { name := "fnExactShuffleRows", fn := fun _ => fun
  | [d1, d2] => { results := [.lit (.bool true)], args := [d1, d2] }
  | _ => none }
def fnExactShuffleRowsRow : OpenClaim := { program := "ytmcafdcabbighaa", sum := "033be4f7dcd5ce35760a6bbb54c53d389954aae6ebea8d656c22c7898ab13bcb", func := "loop.example/g01157/laws.FnExactShuffleRows", spec := "fnExactShuffleRows", apart := false }
def FnExactShuffleRowsSaid : Prop := fnExactShuffleRowsRow.holds Try.pinned (OpenSpec.ofChange fnExactShuffleRowsSpec)

/-- ITS FALSE NEIGHBOUR: 'it returns false'. Refute it at one input. -/
def fnExactShuffleRowsWrong : ChangeSpec := { name := "fnExactShuffleRows", fn := fun _ => fun
  | [d1, d2] => { results := [.lit (.bool false)], args := [d1, d2] }
  | _ => none }
def FnExactShuffleRowsWrongFalsely : Prop := fnExactShuffleRowsRow.holds Try.pinned (OpenSpec.ofChange fnExactShuffleRowsWrong)

/-- 'laws.FnExactStopAt': WHATEVER THE INPUT: true; the input reads as it did. -/
def fnExactStopAtSpec : ChangeSpec := { name := "fnExactStopAt", fn := fun _ => fun
  | [d1, d2] => { results := [.lit (.bool true)], args := [d1, d2] }
  | _ => none }
def fnExactStopAtRow : OpenClaim := { program := "ytmcafdcabbighaa", sum := "033be4f7dcd5ce35760a6bbb54c53d389954aae6ebea8d656c22c7898ab13bcb", func := "loop.example/g01157/laws.FnExactStopAt", spec := "fnExactStopAt", unfollowed := true, recurses := true, apart := false }
def FnExactStopAtSaid : Prop := fnExactStopAtRow.holds Try.pinned (OpenSpec.ofChange fnExactStopAtSpec)

/-- ITS FALSE NEIGHBOUR: 'it returns false'. Refute it at one input. -/
def fnExactStopAtWrong : ChangeSpec := { name := "fnExactStopAt", fn := fun _ => fun
  | [d1, d2] => { results := [.lit (.bool false)], args := [d1, d2] }
  | _ => none }
def FnExactStopAtWrongFalsely : Prop := fnExactStopAtRow.holds Try.pinned (OpenSpec.ofChange fnExactStopAtWrong)

/-- 'laws.FnExactNumbersBytes': WHATEVER THE INPUT: true; the input reads as it did. -/
def fnExactNumbersBytesSpec : ChangeSpec := { name := "fnExactNumbersBytes", fn := fun _ => fun
  | [d] => { results := [.lit (.bool true)], args := [d] }
  | _ => none }
def fnExactNumbersBytesRow : OpenClaim := { program := "ytmcafdcabbighaa", sum := "033be4f7dcd5ce35760a6bbb54c53d389954aae6ebea8d656c22c7898ab13bcb", func := "loop.example/g01157/laws.FnExactNumbersBytes", spec := "fnExactNumbersBytes", inPlace := ["math.Float32bits"], apart := false }
def FnExactNumbersBytesSaid : Prop := fnExactNumbersBytesRow.holds Try.pinned (OpenSpec.ofChange fnExactNumbersBytesSpec)

/-- ITS FALSE NEIGHBOUR: 'it returns false'. Refute it at one input. -/
def fnExactNumbersBytesWrong : ChangeSpec := { name := "fnExactNumbersBytes", fn := fun _ => fun
  | [d] => { results := [.lit (.bool false)], args := [d] }
  | _ => none }
def FnExactNumbersBytesWrongFalsely : Prop := fnExactNumbersBytesRow.holds Try.pinned (OpenSpec.ofChange fnExactNumbersBytesWrong)

/-- 'laws.FnExactBatchOf': WHATEVER THE INPUT: true; the input reads as it did. -/
def fnExactBatchOfSpec : ChangeSpec := { name := "fnExactBatchOf", fn := fun _ => fun
  | [d1, d2, d3, d4] => { results := [.lit (.bool true)], args := [d1, d2, d3, d4] }
  | _ => none }
def fnExactBatchOfRow : OpenClaim := { program := "ytmcafdcabbighaa", sum := "033be4f7dcd5ce35760a6bbb54c53d389954aae6ebea8d656c22c7898ab13bcb", func := "loop.example/g01157/laws.FnExactBatchOf", spec := "fnExactBatchOf", apart := false }
def FnExactBatchOfSaid : Prop := fnExactBatchOfRow.holds Try.pinned (OpenSpec.ofChange fnExactBatchOfSpec)

/-- ITS FALSE NEIGHBOUR: 'it returns false'. Refute it at one input. -/
def fnExactBatchOfWrong : ChangeSpec := { name := "fnExactBatchOf", fn := fun _ => fun
  | [d1, d2, d3, d4] => { results := [.lit (.bool false)], args := [d1, d2, d3, d4] }
  | _ => none }
def FnExactBatchOfWrongFalsely : Prop := fnExactBatchOfRow.holds Try.pinned (OpenSpec.ofChange fnExactBatchOfWrong)

/-- 'laws.FnExactWorkerRows': WHATEVER THE INPUT: true; the input reads as it did. -/
def fnExactWorkerRowsSpec : ChangeSpec := { name := "fnExactWorkerRows", fn := fun _ => fun
  | [d1, d2] => { results := [.lit (.bool true)], args := [d1, d2] }
  | _ => none }
def fnExactWorkerRowsRow : OpenClaim := { program := "ytmcafdcabbighaa", sum := "033be4f7dcd5ce35760a6bbb54c53d389954aae6ebea8d656c22c7898ab13bcb", func := "loop.example/g01157/laws.FnExactWorkerRows", spec := "fnExactWorkerRows", apart := false }
def FnExactWorkerRowsSaid : Prop := fnExactWorkerRowsRow.holds Try.pinned (OpenSpec.ofChange fnExactWorkerRowsSpec)

/-- ITS FALSE NEIGHBOUR: 'it returns false'. Refute it at one input. -/
def fnExactWorkerRowsWrong : ChangeSpec := { name := "fnExactWorkerRows", fn := fun _ => fun
  | [d1, d2] => { results := [.lit (.bool false)], args := [d1, d2] }
  | _ => none }
def FnExactWorkerRowsWrongFalsely : Prop := fnExactWorkerRowsRow.holds Try.pinned (OpenSpec.ofChange fnExactWorkerRowsWrong)

/-- 'laws.FnExactValidExamples': WHATEVER THE INPUT: true; the input reads as it did. -/
def fnExactValidExamplesSpec : ChangeSpec := { name := "fnExactValidExamples", fn := fun _ => fun
  | [d] => { results := [.lit (.bool true)], args := [d] }
  | _ => none }
def fnExactValidExamplesRow : OpenClaim := { program := "ytmcafdcabbighaa", sum := "033be4f7dcd5ce35760a6bbb54c53d389954aae6ebea8d656c22c7898ab13bcb", func := "loop.example/g01157/laws.FnExactValidExamples", spec := "fnExactValidExamples", apart := false }
def FnExactValidExamplesSaid : Prop := fnExactValidExamplesRow.holds Try.pinned (OpenSpec.ofChange fnExactValidExamplesSpec)

/-- ITS FALSE NEIGHBOUR: 'it returns false'. Refute it at one input. -/
def fnExactValidExamplesWrong : ChangeSpec := { name := "fnExactValidExamples", fn := fun _ => fun
  | [d] => { results := [.lit (.bool false)], args := [d] }
  | _ => none }
def FnExactValidExamplesWrongFalsely : Prop := fnExactValidExamplesRow.holds Try.pinned (OpenSpec.ofChange fnExactValidExamplesWrong)

/-- 'laws.FnExactEntriesOf': WHATEVER THE INPUT: true; the input reads as it did. -/
def fnExactEntriesOfSpec : ChangeSpec := { name := "fnExactEntriesOf", fn := fun _ => fun
  | [d] => { results := [.lit (.bool true)], args := [d] }
  | _ => none }
def fnExactEntriesOfRow : OpenClaim := { program := "ytmcafdcabbighaa", sum := "033be4f7dcd5ce35760a6bbb54c53d389954aae6ebea8d656c22c7898ab13bcb", func := "loop.example/g01157/laws.FnExactEntriesOf", spec := "fnExactEntriesOf", apart := false }
def FnExactEntriesOfSaid : Prop := fnExactEntriesOfRow.holds Try.pinned (OpenSpec.ofChange fnExactEntriesOfSpec)

/-- ITS FALSE NEIGHBOUR: 'it returns false'. Refute it at one input. -/
def fnExactEntriesOfWrong : ChangeSpec := { name := "fnExactEntriesOf", fn := fun _ => fun
  | [d] => { results := [.lit (.bool false)], args := [d] }
  | _ => none }
def FnExactEntriesOfWrongFalsely : Prop := fnExactEntriesOfRow.holds Try.pinned (OpenSpec.ofChange fnExactEntriesOfWrong)

/-- 'laws.FnStopped': WHATEVER THE INPUT: true; the input reads as it did. -/
def fnStoppedSpec : ChangeSpec := { name := "fnStopped", fn := fun _ => fun
  | [d1, d2] => { results := [.lit (.bool true)], args := [d1, d2] }
  | _ => none }
def fnStoppedRow : OpenClaim := { program := "ytmcafdcabbighaa", sum := "033be4f7dcd5ce35760a6bbb54c53d389954aae6ebea8d656c22c7898ab13bcb", func := "loop.example/g01157/laws.FnStopped", spec := "fnStopped", inPlace := ["math.Float32frombits"], unfollowed := true, recurses := true, apart := false }
def FnStoppedSaid : Prop := fnStoppedRow.holds Try.pinned (OpenSpec.ofChange fnStoppedSpec)

/-- ITS FALSE NEIGHBOUR: 'it returns false'. Refute it at one input. -/
def fnStoppedWrong : ChangeSpec := { name := "fnStopped", fn := fun _ => fun
  | [d1, d2] => { results := [.lit (.bool false)], args := [d1, d2] }
  | _ => none }
def FnStoppedWrongFalsely : Prop := fnStoppedRow.holds Try.pinned (OpenSpec.ofChange fnStoppedWrong)

/-- 'laws.FnExactBytesNumbers': WHATEVER THE INPUT: true; the input reads as it did. -/
def fnExactBytesNumbersSpec : ChangeSpec := { name := "fnExactBytesNumbers", fn := fun _ => fun
  | [d] => { results := [.lit (.bool true)], args := [d] }
  | _ => none }
def fnExactBytesNumbersRow : OpenClaim := { program := "ytmcafdcabbighaa", sum := "033be4f7dcd5ce35760a6bbb54c53d389954aae6ebea8d656c22c7898ab13bcb", func := "loop.example/g01157/laws.FnExactBytesNumbers", spec := "fnExactBytesNumbers", inPlace := ["math.Float32frombits", "math.Float32bits"], apart := false }
def FnExactBytesNumbersSaid : Prop := fnExactBytesNumbersRow.holds Try.pinned (OpenSpec.ofChange fnExactBytesNumbersSpec)

/-- ITS FALSE NEIGHBOUR: 'it returns false'. Refute it at one input. -/
def fnExactBytesNumbersWrong : ChangeSpec := { name := "fnExactBytesNumbers", fn := fun _ => fun
  | [d] => { results := [.lit (.bool false)], args := [d] }
  | _ => none }
def FnExactBytesNumbersWrongFalsely : Prop := fnExactBytesNumbersRow.holds Try.pinned (OpenSpec.ofChange fnExactBytesNumbersWrong)

/-- 'laws.FnNumberBytes': WHATEVER THE INPUT: true; the input reads as it did. -/
def fnNumberBytesSpec : ChangeSpec := { name := "fnNumberBytes", fn := fun _ => fun
  | [d1, d2] => { results := [.lit (.bool true)], args := [d1, d2] }
  | _ => none }
def fnNumberBytesRow : OpenClaim := { program := "ytmcafdcabbighaa", sum := "033be4f7dcd5ce35760a6bbb54c53d389954aae6ebea8d656c22c7898ab13bcb", func := "loop.example/g01157/laws.FnNumberBytes", spec := "fnNumberBytes", inPlace := ["math.Float32frombits", "math.Float32bits", "math.Float64bits"], apart := false }
def FnNumberBytesSaid : Prop := fnNumberBytesRow.holds Try.pinned (OpenSpec.ofChange fnNumberBytesSpec)

/-- ITS FALSE NEIGHBOUR: 'it returns false'. Refute it at one input. -/
def fnNumberBytesWrong : ChangeSpec := { name := "fnNumberBytes", fn := fun _ => fun
  | [d1, d2] => { results := [.lit (.bool false)], args := [d1, d2] }
  | _ => none }
def FnNumberBytesWrongFalsely : Prop := fnNumberBytesRow.holds Try.pinned (OpenSpec.ofChange fnNumberBytesWrong)

/- THE SECOND FORM. 'bulk': how many values and letters a reading holds, each counted each time it is reached (what is shared counts as often as it is met; a slice's spare places count too). A statement '..UptoSaid' is the law's where the arguments, and the package variables that the reading takes, are together of bulk at most 1048576: NARROWER than '..Said'. Prove '..Said' where nothing that the law and all that it calls make is longer than what came in: it says more and counts as full. Else prove '..UptoSaid'. A law counts once. -/
mutual
def uptoBulk {H : Type} : DataW H → Nat
  | .lit (.string bytes) => bytes.length + 1
  | .lit _ => 1
  | .nil => 1
  | .ptr d => uptoBulk d + 1
  | .slice elems spare => uptoBulkAll elems + uptoBulkAll spare + 1
  | .agg parts => uptoBulkAll parts + 1
  | .iface _ d => uptoBulk d + 1
  | .map entries => uptoBulkEntries entries + 1
  | .held _ => 1
def uptoBulkAll {H : Type} : List (DataW H) → Nat
  | [] => 0
  | d :: r => uptoBulk d + uptoBulkAll r
def uptoBulkEntries {H : Type} : List (Lit × DataW H) → Nat
  | [] => 0
  | x :: r => uptoBulkEntry x + uptoBulkEntries r
def uptoBulkEntry {H : Type} : Lit × DataW H → Nat
  | (.string bytes, d) => bytes.length + uptoBulk d + 1
  | (_, d) => uptoBulk d + 1
 end
def uptoSmall : (H : Type) → List (DataW H) → Bool := fun _ ds => decide (uptoBulkAll ds ≤ 1048576)
def OpenSpec.upto (s : _root_.Go.ChangeSpec) : _root_.Go.OpenSpec := { _root_.Go.OpenSpec.ofChange s with cond := some uptoSmall }

/-- 'laws.FnExactArchiveOf', WHERE WHAT IT READS IS OF BULK AT MOST 1048576: true; the input reads as it did. -/
def fnExactArchiveOfUptoRow : OpenClaim := { program := "ytmcafdcabbighaa", sum := "033be4f7dcd5ce35760a6bbb54c53d389954aae6ebea8d656c22c7898ab13bcb", func := "loop.example/g01157/laws.FnExactArchiveOf", spec := "fnExactArchiveOf", apart := false, narrowed := true }
def FnExactArchiveOfUptoSaid : Prop := fnExactArchiveOfUptoRow.holds Try.pinned (OpenSpec.upto fnExactArchiveOfSpec)

/-- 'laws.FnExactShuffleRows', WHERE WHAT IT READS IS OF BULK AT MOST 1048576: true; the input reads as it did. -/
def fnExactShuffleRowsUptoRow : OpenClaim := { program := "ytmcafdcabbighaa", sum := "033be4f7dcd5ce35760a6bbb54c53d389954aae6ebea8d656c22c7898ab13bcb", func := "loop.example/g01157/laws.FnExactShuffleRows", spec := "fnExactShuffleRows", apart := false, narrowed := true }
def FnExactShuffleRowsUptoSaid : Prop := fnExactShuffleRowsUptoRow.holds Try.pinned (OpenSpec.upto fnExactShuffleRowsSpec)

/-- 'laws.FnExactStopAt', WHERE WHAT IT READS IS OF BULK AT MOST 1048576: true; the input reads as it did. -/
def fnExactStopAtUptoRow : OpenClaim := { program := "ytmcafdcabbighaa", sum := "033be4f7dcd5ce35760a6bbb54c53d389954aae6ebea8d656c22c7898ab13bcb", func := "loop.example/g01157/laws.FnExactStopAt", spec := "fnExactStopAt", unfollowed := true, recurses := true, apart := false, narrowed := true }
def FnExactStopAtUptoSaid : Prop := fnExactStopAtUptoRow.holds Try.pinned (OpenSpec.upto fnExactStopAtSpec)

/-- 'laws.FnExactNumbersBytes', WHERE WHAT IT READS IS OF BULK AT MOST 1048576: true; the input reads as it did. -/
def fnExactNumbersBytesUptoRow : OpenClaim := { program := "ytmcafdcabbighaa", sum := "033be4f7dcd5ce35760a6bbb54c53d389954aae6ebea8d656c22c7898ab13bcb", func := "loop.example/g01157/laws.FnExactNumbersBytes", spec := "fnExactNumbersBytes", inPlace := ["math.Float32bits"], apart := false, narrowed := true }
def FnExactNumbersBytesUptoSaid : Prop := fnExactNumbersBytesUptoRow.holds Try.pinned (OpenSpec.upto fnExactNumbersBytesSpec)

/-- 'laws.FnExactBatchOf', WHERE WHAT IT READS IS OF BULK AT MOST 1048576: true; the input reads as it did. -/
def fnExactBatchOfUptoRow : OpenClaim := { program := "ytmcafdcabbighaa", sum := "033be4f7dcd5ce35760a6bbb54c53d389954aae6ebea8d656c22c7898ab13bcb", func := "loop.example/g01157/laws.FnExactBatchOf", spec := "fnExactBatchOf", apart := false, narrowed := true }
def FnExactBatchOfUptoSaid : Prop := fnExactBatchOfUptoRow.holds Try.pinned (OpenSpec.upto fnExactBatchOfSpec)

/-- 'laws.FnExactWorkerRows', WHERE WHAT IT READS IS OF BULK AT MOST 1048576: true; the input reads as it did. -/
def fnExactWorkerRowsUptoRow : OpenClaim := { program := "ytmcafdcabbighaa", sum := "033be4f7dcd5ce35760a6bbb54c53d389954aae6ebea8d656c22c7898ab13bcb", func := "loop.example/g01157/laws.FnExactWorkerRows", spec := "fnExactWorkerRows", apart := false, narrowed := true }
def FnExactWorkerRowsUptoSaid : Prop := fnExactWorkerRowsUptoRow.holds Try.pinned (OpenSpec.upto fnExactWorkerRowsSpec)

/-- 'laws.FnExactValidExamples', WHERE WHAT IT READS IS OF BULK AT MOST 1048576: true; the input reads as it did. -/
def fnExactValidExamplesUptoRow : OpenClaim := { program := "ytmcafdcabbighaa", sum := "033be4f7dcd5ce35760a6bbb54c53d389954aae6ebea8d656c22c7898ab13bcb", func := "loop.example/g01157/laws.FnExactValidExamples", spec := "fnExactValidExamples", apart := false, narrowed := true }
def FnExactValidExamplesUptoSaid : Prop := fnExactValidExamplesUptoRow.holds Try.pinned (OpenSpec.upto fnExactValidExamplesSpec)

/-- 'laws.FnExactEntriesOf', WHERE WHAT IT READS IS OF BULK AT MOST 1048576: true; the input reads as it did. -/
def fnExactEntriesOfUptoRow : OpenClaim := { program := "ytmcafdcabbighaa", sum := "033be4f7dcd5ce35760a6bbb54c53d389954aae6ebea8d656c22c7898ab13bcb", func := "loop.example/g01157/laws.FnExactEntriesOf", spec := "fnExactEntriesOf", apart := false, narrowed := true }
def FnExactEntriesOfUptoSaid : Prop := fnExactEntriesOfUptoRow.holds Try.pinned (OpenSpec.upto fnExactEntriesOfSpec)

/-- 'laws.FnStopped', WHERE WHAT IT READS IS OF BULK AT MOST 1048576: true; the input reads as it did. -/
def fnStoppedUptoRow : OpenClaim := { program := "ytmcafdcabbighaa", sum := "033be4f7dcd5ce35760a6bbb54c53d389954aae6ebea8d656c22c7898ab13bcb", func := "loop.example/g01157/laws.FnStopped", spec := "fnStopped", inPlace := ["math.Float32frombits"], unfollowed := true, recurses := true, apart := false, narrowed := true }
def FnStoppedUptoSaid : Prop := fnStoppedUptoRow.holds Try.pinned (OpenSpec.upto fnStoppedSpec)

/-- 'laws.FnExactBytesNumbers', WHERE WHAT IT READS IS OF BULK AT MOST 1048576: true; the input reads as it did. -/
def fnExactBytesNumbersUptoRow : OpenClaim := { program := "ytmcafdcabbighaa", sum := "033be4f7dcd5ce35760a6bbb54c53d389954aae6ebea8d656c22c7898ab13bcb", func := "loop.example/g01157/laws.FnExactBytesNumbers", spec := "fnExactBytesNumbers", inPlace := ["math.Float32frombits", "math.Float32bits"], apart := false, narrowed := true }
def FnExactBytesNumbersUptoSaid : Prop := fnExactBytesNumbersUptoRow.holds Try.pinned (OpenSpec.upto fnExactBytesNumbersSpec)

/-- 'laws.FnNumberBytes', WHERE WHAT IT READS IS OF BULK AT MOST 1048576: true; the input reads as it did. -/
def fnNumberBytesUptoRow : OpenClaim := { program := "ytmcafdcabbighaa", sum := "033be4f7dcd5ce35760a6bbb54c53d389954aae6ebea8d656c22c7898ab13bcb", func := "loop.example/g01157/laws.FnNumberBytes", spec := "fnNumberBytes", inPlace := ["math.Float32frombits", "math.Float32bits", "math.Float64bits"], apart := false, narrowed := true }
def FnNumberBytesUptoSaid : Prop := fnNumberBytesUptoRow.holds Try.pinned (OpenSpec.upto fnNumberBytesSpec)

end Rows
end Go.Proofs.Ytmcafdcabbighaa
