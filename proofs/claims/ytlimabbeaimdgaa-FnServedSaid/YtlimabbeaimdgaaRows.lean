/-
  No cell of these rows narrows 'for every input' (looked for: loops, veiled, ifaces, maps, wideKeys, modest, calm, conditions, laid).
  DERIVED. THE GIVEN ROWS OF THIS SEAT. 9 by the template 'for every input the law returns true; each argument reads behind the call as it read before'; 0 by the template 'total and deterministic' (their statements: YtlimabbeaimdgaaTotals.lean).
  GIVEN WITH THE SEED: the statements are not yours to turn. If you find one false, say at which input.
  Laid BY PROGRAM, IN A SANDBOX (cutbox-rows.mjs): the forced cells as the released guide's own fill.sh prints them over the translation cd53212fc5528b04… (all of the seat's roots in one cut). By AI agents, Wed Nov 11 2026. No macro, syntax, notation, axiom, sorry.
-/
import Derived.Test.YtlimabbeaimdgaaChecked
import GoSem.Claim
import GoSem.ClaimJoined
import GoSem.ClaimMapViews
import Derived.JoinedTies
import Derived.KernelRfl
namespace Go.Proofs.Ytlimabbeaimdgaa
/- THE CELL 'sum', in the pinned program and in every row, IS THE sha256 OF THE DUMP (.gsa) THAT YtlimabbeaimdgaaProg.lean LOADS. Nothing in Lean hashes anything: it is a label: what it is worth is what the hold of that sum in a sandbox is worth. -/
noncomputable def Try.pinned : Pinned := { name := "ytlimabbeaimdgaa", sum := "cd53212fc5528b04673c18b6a1ca382edd4905aeb086525879eca6a4496ccf71", checked := Try.checked }
namespace Rows
def none {H : Type} : Left H := { results := [], args := [] }

/-- 'laws.FnExactCompileModel': WHATEVER THE INPUT: true; the input reads as it did. -/
def fnExactCompileModelSpec : ChangeSpec := { name := "fnExactCompileModel", fn := fun _ => fun
  | [d] => { results := [.lit (.bool true)], args := [d] }
  | _ => none }
def fnExactCompileModelRow : OpenClaim := { program := "ytlimabbeaimdgaa", sum := "cd53212fc5528b04673c18b6a1ca382edd4905aeb086525879eca6a4496ccf71", func := "loop.example/g01157/laws.FnExactCompileModel", spec := "fnExactCompileModel", unfollowed := true, recurses := true, apart := false }
def FnExactCompileModelSaid : Prop := fnExactCompileModelRow.holds Try.pinned (OpenSpec.ofChange fnExactCompileModelSpec)

/-- ITS FALSE NEIGHBOUR: 'it returns false'. Refute it at one input. -/
def fnExactCompileModelWrong : ChangeSpec := { name := "fnExactCompileModel", fn := fun _ => fun
  | [d] => { results := [.lit (.bool false)], args := [d] }
  | _ => none }
def FnExactCompileModelWrongFalsely : Prop := fnExactCompileModelRow.holds Try.pinned (OpenSpec.ofChange fnExactCompileModelWrong)

/-- 'laws.FnStopped': WHATEVER THE INPUT: true; the input reads as it did. -/
def fnStoppedSpec : ChangeSpec := { name := "fnStopped", fn := fun _ => fun
  | [d1, d2] => { results := [.lit (.bool true)], args := [d1, d2] }
  | _ => none }
def fnStoppedRow : OpenClaim := { program := "ytlimabbeaimdgaa", sum := "cd53212fc5528b04673c18b6a1ca382edd4905aeb086525879eca6a4496ccf71", func := "loop.example/g01157/laws.FnStopped", spec := "fnStopped", inPlace := ["math.Float32frombits"], unfollowed := true, recurses := true, apart := false }
def FnStoppedSaid : Prop := fnStoppedRow.holds Try.pinned (OpenSpec.ofChange fnStoppedSpec)

/-- ITS FALSE NEIGHBOUR: 'it returns false'. Refute it at one input. -/
def fnStoppedWrong : ChangeSpec := { name := "fnStopped", fn := fun _ => fun
  | [d1, d2] => { results := [.lit (.bool false)], args := [d1, d2] }
  | _ => none }
def FnStoppedWrongFalsely : Prop := fnStoppedRow.holds Try.pinned (OpenSpec.ofChange fnStoppedWrong)

/-- 'laws.FnNumberBytes': WHATEVER THE INPUT: true; the input reads as it did. -/
def fnNumberBytesSpec : ChangeSpec := { name := "fnNumberBytes", fn := fun _ => fun
  | [d1, d2] => { results := [.lit (.bool true)], args := [d1, d2] }
  | _ => none }
def fnNumberBytesRow : OpenClaim := { program := "ytlimabbeaimdgaa", sum := "cd53212fc5528b04673c18b6a1ca382edd4905aeb086525879eca6a4496ccf71", func := "loop.example/g01157/laws.FnNumberBytes", spec := "fnNumberBytes", inPlace := ["math.Float32frombits", "math.Float32bits", "math.Float64bits"], apart := false }
def FnNumberBytesSaid : Prop := fnNumberBytesRow.holds Try.pinned (OpenSpec.ofChange fnNumberBytesSpec)

/-- ITS FALSE NEIGHBOUR: 'it returns false'. Refute it at one input. -/
def fnNumberBytesWrong : ChangeSpec := { name := "fnNumberBytes", fn := fun _ => fun
  | [d1, d2] => { results := [.lit (.bool false)], args := [d1, d2] }
  | _ => none }
def FnNumberBytesWrongFalsely : Prop := fnNumberBytesRow.holds Try.pinned (OpenSpec.ofChange fnNumberBytesWrong)

/-- 'laws.FnReduced': WHATEVER THE INPUT: true; the input reads as it did. -/
def fnReducedSpec : ChangeSpec := { name := "fnReduced", fn := fun _ => fun
  | [d1, d2] => { results := [.lit (.bool true)], args := [d1, d2] }
  | _ => none }
def fnReducedRow : OpenClaim := { program := "ytlimabbeaimdgaa", sum := "cd53212fc5528b04673c18b6a1ca382edd4905aeb086525879eca6a4496ccf71", func := "loop.example/g01157/laws.FnReduced", spec := "fnReduced", inPlace := ["math.Float32frombits", "math.Float64bits"], unfollowed := true, recurses := true, apart := false }
def FnReducedSaid : Prop := fnReducedRow.holds Try.pinned (OpenSpec.ofChange fnReducedSpec)

/-- ITS FALSE NEIGHBOUR: 'it returns false'. Refute it at one input. -/
def fnReducedWrong : ChangeSpec := { name := "fnReduced", fn := fun _ => fun
  | [d1, d2] => { results := [.lit (.bool false)], args := [d1, d2] }
  | _ => none }
def FnReducedWrongFalsely : Prop := fnReducedRow.holds Try.pinned (OpenSpec.ofChange fnReducedWrong)

/-- 'laws.FnConfusion': WHATEVER THE INPUT: true; the input reads as it did. -/
def fnConfusionSpec : ChangeSpec := { name := "fnConfusion", fn := fun _ => fun
  | [d1, d2] => { results := [.lit (.bool true)], args := [d1, d2] }
  | _ => none }
def fnConfusionRow : OpenClaim := { program := "ytlimabbeaimdgaa", sum := "cd53212fc5528b04673c18b6a1ca382edd4905aeb086525879eca6a4496ccf71", func := "loop.example/g01157/laws.FnConfusion", spec := "fnConfusion", inPlace := ["math.Float32frombits", "math.Float64frombits", "math.sqrt"], unfollowed := true, recurses := true, apart := false }
def FnConfusionSaid : Prop := fnConfusionRow.holds Try.pinned (OpenSpec.ofChange fnConfusionSpec)

/-- ITS FALSE NEIGHBOUR: 'it returns false'. Refute it at one input. -/
def fnConfusionWrong : ChangeSpec := { name := "fnConfusion", fn := fun _ => fun
  | [d1, d2] => { results := [.lit (.bool false)], args := [d1, d2] }
  | _ => none }
def FnConfusionWrongFalsely : Prop := fnConfusionRow.holds Try.pinned (OpenSpec.ofChange fnConfusionWrong)

/-- 'laws.FnServed': WHATEVER THE INPUT: true; the input reads as it did. -/
def fnServedSpec : ChangeSpec := { name := "fnServed", fn := fun _ => fun
  | [d1, d2] => { results := [.lit (.bool true)], args := [d1, d2] }
  | _ => none }
def fnServedRow : OpenClaim := { program := "ytlimabbeaimdgaa", sum := "cd53212fc5528b04673c18b6a1ca382edd4905aeb086525879eca6a4496ccf71", func := "loop.example/g01157/laws.FnServed", spec := "fnServed", inPlace := ["math.Float32frombits", "math.Float64frombits", "math.sqrt", "math.Float64bits"], apart := false }
def FnServedSaid : Prop := fnServedRow.holds Try.pinned (OpenSpec.ofChange fnServedSpec)

/-- ITS FALSE NEIGHBOUR: 'it returns false'. Refute it at one input. -/
def fnServedWrong : ChangeSpec := { name := "fnServed", fn := fun _ => fun
  | [d1, d2] => { results := [.lit (.bool false)], args := [d1, d2] }
  | _ => none }
def FnServedWrongFalsely : Prop := fnServedRow.holds Try.pinned (OpenSpec.ofChange fnServedWrong)

/-- 'laws.FnRowsAlone': WHATEVER THE INPUT: true; the input reads as it did. -/
def fnRowsAloneSpec : ChangeSpec := { name := "fnRowsAlone", fn := fun _ => fun
  | [d1, d2] => { results := [.lit (.bool true)], args := [d1, d2] }
  | _ => none }
def fnRowsAloneRow : OpenClaim := { program := "ytlimabbeaimdgaa", sum := "cd53212fc5528b04673c18b6a1ca382edd4905aeb086525879eca6a4496ccf71", func := "loop.example/g01157/laws.FnRowsAlone", spec := "fnRowsAlone", inPlace := ["math.Float32frombits", "math.Float64frombits", "math.sqrt", "math.Float32bits"], unfollowed := true, recurses := true, apart := false }
def FnRowsAloneSaid : Prop := fnRowsAloneRow.holds Try.pinned (OpenSpec.ofChange fnRowsAloneSpec)

/-- ITS FALSE NEIGHBOUR: 'it returns false'. Refute it at one input. -/
def fnRowsAloneWrong : ChangeSpec := { name := "fnRowsAlone", fn := fun _ => fun
  | [d1, d2] => { results := [.lit (.bool false)], args := [d1, d2] }
  | _ => none }
def FnRowsAloneWrongFalsely : Prop := fnRowsAloneRow.holds Try.pinned (OpenSpec.ofChange fnRowsAloneWrong)

/-- 'laws.FnFused': WHATEVER THE INPUT: true; the input reads as it did. -/
def fnFusedSpec : ChangeSpec := { name := "fnFused", fn := fun _ => fun
  | [d1, d2] => { results := [.lit (.bool true)], args := [d1, d2] }
  | _ => none }
def fnFusedRow : OpenClaim := { program := "ytlimabbeaimdgaa", sum := "cd53212fc5528b04673c18b6a1ca382edd4905aeb086525879eca6a4496ccf71", func := "loop.example/g01157/laws.FnFused", spec := "fnFused", inPlace := ["math.Float64frombits", "math.sqrt", "math.Float64bits", "math.archTrunc", "math.Float32frombits", "math.Float32bits"], unfollowed := true, recurses := true, apart := false }
def FnFusedSaid : Prop := fnFusedRow.holds Try.pinned (OpenSpec.ofChange fnFusedSpec)

/-- ITS FALSE NEIGHBOUR: 'it returns false'. Refute it at one input. -/
def fnFusedWrong : ChangeSpec := { name := "fnFused", fn := fun _ => fun
  | [d1, d2] => { results := [.lit (.bool false)], args := [d1, d2] }
  | _ => none }
def FnFusedWrongFalsely : Prop := fnFusedRow.holds Try.pinned (OpenSpec.ofChange fnFusedWrong)

/-- 'laws.FnWorkers': WHATEVER THE INPUT: true; the input reads as it did. -/
def fnWorkersSpec : ChangeSpec := { name := "fnWorkers", fn := fun _ => fun
  | [d1, d2] => { results := [.lit (.bool true)], args := [d1, d2] }
  | _ => none }
def fnWorkersRow : OpenClaim := { program := "ytlimabbeaimdgaa", sum := "cd53212fc5528b04673c18b6a1ca382edd4905aeb086525879eca6a4496ccf71", func := "loop.example/g01157/laws.FnWorkers", spec := "fnWorkers", inPlace := ["math.Float32frombits", "math.Float64bits"], unfollowed := true, recurses := true, apart := false }
def FnWorkersSaid : Prop := fnWorkersRow.holds Try.pinned (OpenSpec.ofChange fnWorkersSpec)

/-- ITS FALSE NEIGHBOUR: 'it returns false'. Refute it at one input. -/
def fnWorkersWrong : ChangeSpec := { name := "fnWorkers", fn := fun _ => fun
  | [d1, d2] => { results := [.lit (.bool false)], args := [d1, d2] }
  | _ => none }
def FnWorkersWrongFalsely : Prop := fnWorkersRow.holds Try.pinned (OpenSpec.ofChange fnWorkersWrong)

/- THE SECOND FORM. 'bulk': how many values and letters a reading holds, each counted each time it is reached (what is shared counts as often as it is met; a slice's spare places count too). A statement '..UptoSaid' is the law's where the arguments, and the package variables that the reading takes, are together of bulk at most 1048576: NARROWER than '..Said'. Prove '..Said' where nothing that the law and all that it calls make is longer than what came in: it says more and counts as full. Else prove '..UptoSaid'. A law counts once. -/
mutual
def uptoBulk {H : Type} : DataW H → Nat
  | .lit (.string bytes) => bytes.length + 1
  | .lit _ => 1
  | .nil => 1
  | .ptr d => uptoBulk d + 1
  | .slice elems spare => uptoBulkAll elems + uptoBulkAll spare + 1
  | .agg parts => uptoBulkAll parts + 1
  | .iface _ d => uptoBulk d + 1
  | .map entries => uptoBulkEntries entries + 1
  | .held _ => 1
def uptoBulkAll {H : Type} : List (DataW H) → Nat
  | [] => 0
  | d :: r => uptoBulk d + uptoBulkAll r
def uptoBulkEntries {H : Type} : List (Lit × DataW H) → Nat
  | [] => 0
  | x :: r => uptoBulkEntry x + uptoBulkEntries r
def uptoBulkEntry {H : Type} : Lit × DataW H → Nat
  | (.string bytes, d) => bytes.length + uptoBulk d + 1
  | (_, d) => uptoBulk d + 1
 end
def uptoSmall : (H : Type) → List (DataW H) → Bool := fun _ ds => decide (uptoBulkAll ds ≤ 1048576)
def OpenSpec.upto (s : _root_.Go.ChangeSpec) : _root_.Go.OpenSpec := { _root_.Go.OpenSpec.ofChange s with cond := some uptoSmall }

/-- 'laws.FnExactCompileModel', WHERE WHAT IT READS IS OF BULK AT MOST 1048576: true; the input reads as it did. -/
def fnExactCompileModelUptoRow : OpenClaim := { program := "ytlimabbeaimdgaa", sum := "cd53212fc5528b04673c18b6a1ca382edd4905aeb086525879eca6a4496ccf71", func := "loop.example/g01157/laws.FnExactCompileModel", spec := "fnExactCompileModel", unfollowed := true, recurses := true, apart := false, narrowed := true }
def FnExactCompileModelUptoSaid : Prop := fnExactCompileModelUptoRow.holds Try.pinned (OpenSpec.upto fnExactCompileModelSpec)

/-- 'laws.FnStopped', WHERE WHAT IT READS IS OF BULK AT MOST 1048576: true; the input reads as it did. -/
def fnStoppedUptoRow : OpenClaim := { program := "ytlimabbeaimdgaa", sum := "cd53212fc5528b04673c18b6a1ca382edd4905aeb086525879eca6a4496ccf71", func := "loop.example/g01157/laws.FnStopped", spec := "fnStopped", inPlace := ["math.Float32frombits"], unfollowed := true, recurses := true, apart := false, narrowed := true }
def FnStoppedUptoSaid : Prop := fnStoppedUptoRow.holds Try.pinned (OpenSpec.upto fnStoppedSpec)

/-- 'laws.FnNumberBytes', WHERE WHAT IT READS IS OF BULK AT MOST 1048576: true; the input reads as it did. -/
def fnNumberBytesUptoRow : OpenClaim := { program := "ytlimabbeaimdgaa", sum := "cd53212fc5528b04673c18b6a1ca382edd4905aeb086525879eca6a4496ccf71", func := "loop.example/g01157/laws.FnNumberBytes", spec := "fnNumberBytes", inPlace := ["math.Float32frombits", "math.Float32bits", "math.Float64bits"], apart := false, narrowed := true }
def FnNumberBytesUptoSaid : Prop := fnNumberBytesUptoRow.holds Try.pinned (OpenSpec.upto fnNumberBytesSpec)

/-- 'laws.FnReduced', WHERE WHAT IT READS IS OF BULK AT MOST 1048576: true; the input reads as it did. -/
def fnReducedUptoRow : OpenClaim := { program := "ytlimabbeaimdgaa", sum := "cd53212fc5528b04673c18b6a1ca382edd4905aeb086525879eca6a4496ccf71", func := "loop.example/g01157/laws.FnReduced", spec := "fnReduced", inPlace := ["math.Float32frombits", "math.Float64bits"], unfollowed := true, recurses := true, apart := false, narrowed := true }
def FnReducedUptoSaid : Prop := fnReducedUptoRow.holds Try.pinned (OpenSpec.upto fnReducedSpec)

/-- 'laws.FnConfusion', WHERE WHAT IT READS IS OF BULK AT MOST 1048576: true; the input reads as it did. -/
def fnConfusionUptoRow : OpenClaim := { program := "ytlimabbeaimdgaa", sum := "cd53212fc5528b04673c18b6a1ca382edd4905aeb086525879eca6a4496ccf71", func := "loop.example/g01157/laws.FnConfusion", spec := "fnConfusion", inPlace := ["math.Float32frombits", "math.Float64frombits", "math.sqrt"], unfollowed := true, recurses := true, apart := false, narrowed := true }
def FnConfusionUptoSaid : Prop := fnConfusionUptoRow.holds Try.pinned (OpenSpec.upto fnConfusionSpec)

/-- 'laws.FnServed', WHERE WHAT IT READS IS OF BULK AT MOST 1048576: true; the input reads as it did. -/
def fnServedUptoRow : OpenClaim := { program := "ytlimabbeaimdgaa", sum := "cd53212fc5528b04673c18b6a1ca382edd4905aeb086525879eca6a4496ccf71", func := "loop.example/g01157/laws.FnServed", spec := "fnServed", inPlace := ["math.Float32frombits", "math.Float64frombits", "math.sqrt", "math.Float64bits"], apart := false, narrowed := true }
def FnServedUptoSaid : Prop := fnServedUptoRow.holds Try.pinned (OpenSpec.upto fnServedSpec)

/-- 'laws.FnRowsAlone', WHERE WHAT IT READS IS OF BULK AT MOST 1048576: true; the input reads as it did. -/
def fnRowsAloneUptoRow : OpenClaim := { program := "ytlimabbeaimdgaa", sum := "cd53212fc5528b04673c18b6a1ca382edd4905aeb086525879eca6a4496ccf71", func := "loop.example/g01157/laws.FnRowsAlone", spec := "fnRowsAlone", inPlace := ["math.Float32frombits", "math.Float64frombits", "math.sqrt", "math.Float32bits"], unfollowed := true, recurses := true, apart := false, narrowed := true }
def FnRowsAloneUptoSaid : Prop := fnRowsAloneUptoRow.holds Try.pinned (OpenSpec.upto fnRowsAloneSpec)

/-- 'laws.FnFused', WHERE WHAT IT READS IS OF BULK AT MOST 1048576: true; the input reads as it did. -/
def fnFusedUptoRow : OpenClaim := { program := "ytlimabbeaimdgaa", sum := "cd53212fc5528b04673c18b6a1ca382edd4905aeb086525879eca6a4496ccf71", func := "loop.example/g01157/laws.FnFused", spec := "fnFused", inPlace := ["math.Float64frombits", "math.sqrt", "math.Float64bits", "math.archTrunc", "math.Float32frombits", "math.Float32bits"], unfollowed := true, recurses := true, apart := false, narrowed := true }
def FnFusedUptoSaid : Prop := fnFusedUptoRow.holds Try.pinned (OpenSpec.upto fnFusedSpec)

/-- 'laws.FnWorkers', WHERE WHAT IT READS IS OF BULK AT MOST 1048576: true; the input reads as it did. -/
def fnWorkersUptoRow : OpenClaim := { program := "ytlimabbeaimdgaa", sum := "cd53212fc5528b04673c18b6a1ca382edd4905aeb086525879eca6a4496ccf71", func := "loop.example/g01157/laws.FnWorkers", spec := "fnWorkers", inPlace := ["math.Float32frombits", "math.Float64bits"], unfollowed := true, recurses := true, apart := false, narrowed := true }
def FnWorkersUptoSaid : Prop := fnWorkersUptoRow.holds Try.pinned (OpenSpec.upto fnWorkersSpec)

end Rows
end Go.Proofs.Ytlimabbeaimdgaa
