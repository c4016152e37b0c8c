/-
  No cell of these rows narrows 'for every input' (looked for: loops, veiled, ifaces, maps, wideKeys, modest, calm, conditions, laid).
  DERIVED. THE GIVEN ROWS OF THIS SEAT. 6 by the template 'for every input the law returns true; each argument reads behind the call as it read before'; 0 by the template 'total and deterministic' (their statements: YtmbckkcgiafagaaTotals.lean).
  GIVEN WITH THE SEED: the statements are not yours to turn. If you find one false, say at which input.
  Laid BY PROGRAM, IN A SANDBOX (cutbox-rows.mjs): the forced cells as the released guide's own fill.sh prints them over the translation 3e5524c873364c03… (all of the seat's roots in one cut). By AI agents, Wed Nov 11 2026. No macro, syntax, notation, axiom, sorry.
-/
import Derived.Test.YtmbckkcgiafagaaChecked
import GoSem.Claim
import GoSem.ClaimJoined
import GoSem.ClaimMapViews
import Derived.JoinedTies
import Derived.KernelRfl
namespace Go.Proofs.Ytmbckkcgiafagaa
/- THE CELL 'sum', in the pinned program and in every row, IS THE sha256 OF THE DUMP (.gsa) THAT YtmbckkcgiafagaaProg.lean LOADS. Nothing in Lean hashes anything: it is a label: what it is worth is what the hold of that sum in a sandbox is worth. -/
noncomputable def Try.pinned : Pinned := { name := "ytmbckkcgiafagaa", sum := "3e5524c873364c0387fc9a3c34466a84454d08e127638aff58d0f6661d26fa64", checked := Try.checked }
namespace Rows
def none {H : Type} : Left H := { results := [], args := [] }

/-- 'laws.FnReduced': WHATEVER THE INPUT: true; the input reads as it did. -/
def fnReducedSpec : ChangeSpec := { name := "fnReduced", fn := fun _ => fun
  | [d1, d2] => { results := [.lit (.bool true)], args := [d1, d2] }
  | _ => none }
def fnReducedRow : OpenClaim := { program := "ytmbckkcgiafagaa", sum := "3e5524c873364c0387fc9a3c34466a84454d08e127638aff58d0f6661d26fa64", func := "loop.example/g01157/laws.FnReduced", spec := "fnReduced", inPlace := ["math.Float32frombits", "math.Float64bits"], unfollowed := true, recurses := true, apart := false }
def FnReducedSaid : Prop := fnReducedRow.holds Try.pinned (OpenSpec.ofChange fnReducedSpec)

/-- ITS FALSE NEIGHBOUR: 'it returns false'. Refute it at one input. -/
def fnReducedWrong : ChangeSpec := { name := "fnReduced", fn := fun _ => fun
  | [d1, d2] => { results := [.lit (.bool false)], args := [d1, d2] }
  | _ => none }
def FnReducedWrongFalsely : Prop := fnReducedRow.holds Try.pinned (OpenSpec.ofChange fnReducedWrong)

/-- 'laws.FnWorkers': WHATEVER THE INPUT: true; the input reads as it did. -/
def fnWorkersSpec : ChangeSpec := { name := "fnWorkers", fn := fun _ => fun
  | [d1, d2] => { results := [.lit (.bool true)], args := [d1, d2] }
  | _ => none }
def fnWorkersRow : OpenClaim := { program := "ytmbckkcgiafagaa", sum := "3e5524c873364c0387fc9a3c34466a84454d08e127638aff58d0f6661d26fa64", func := "loop.example/g01157/laws.FnWorkers", spec := "fnWorkers", inPlace := ["math.Float32frombits", "math.Float64bits"], unfollowed := true, recurses := true, apart := false }
def FnWorkersSaid : Prop := fnWorkersRow.holds Try.pinned (OpenSpec.ofChange fnWorkersSpec)

/-- ITS FALSE NEIGHBOUR: 'it returns false'. Refute it at one input. -/
def fnWorkersWrong : ChangeSpec := { name := "fnWorkers", fn := fun _ => fun
  | [d1, d2] => { results := [.lit (.bool false)], args := [d1, d2] }
  | _ => none }
def FnWorkersWrongFalsely : Prop := fnWorkersRow.holds Try.pinned (OpenSpec.ofChange fnWorkersWrong)

/-- 'laws.FnModelTapes': WHATEVER THE INPUT: true; the input reads as it did. -/
def fnModelTapesSpec : ChangeSpec := { name := "fnModelTapes", fn := fun _ => fun
  | [d1, d2] => { results := [.lit (.bool true)], args := [d1, d2] }
  | _ => none }
def fnModelTapesRow : OpenClaim := { program := "ytmbckkcgiafagaa", sum := "3e5524c873364c0387fc9a3c34466a84454d08e127638aff58d0f6661d26fa64", func := "loop.example/g01157/laws.FnModelTapes", spec := "fnModelTapes", inPlace := ["math.Float32frombits", "math.Float64bits", "math.Float64frombits", "math.sqrt"], unfollowed := true, recurses := true, apart := false }
def FnModelTapesSaid : Prop := fnModelTapesRow.holds Try.pinned (OpenSpec.ofChange fnModelTapesSpec)

/-- ITS FALSE NEIGHBOUR: 'it returns false'. Refute it at one input. -/
def fnModelTapesWrong : ChangeSpec := { name := "fnModelTapes", fn := fun _ => fun
  | [d1, d2] => { results := [.lit (.bool false)], args := [d1, d2] }
  | _ => none }
def FnModelTapesWrongFalsely : Prop := fnModelTapesRow.holds Try.pinned (OpenSpec.ofChange fnModelTapesWrong)

/-- 'laws.FnRowsAlone': WHATEVER THE INPUT: true; the input reads as it did. -/
def fnRowsAloneSpec : ChangeSpec := { name := "fnRowsAlone", fn := fun _ => fun
  | [d1, d2] => { results := [.lit (.bool true)], args := [d1, d2] }
  | _ => none }
def fnRowsAloneRow : OpenClaim := { program := "ytmbckkcgiafagaa", sum := "3e5524c873364c0387fc9a3c34466a84454d08e127638aff58d0f6661d26fa64", func := "loop.example/g01157/laws.FnRowsAlone", spec := "fnRowsAlone", inPlace := ["math.Float32frombits", "math.Float64frombits", "math.sqrt", "math.Float32bits"], unfollowed := true, recurses := true, apart := false }
def FnRowsAloneSaid : Prop := fnRowsAloneRow.holds Try.pinned (OpenSpec.ofChange fnRowsAloneSpec)

/-- ITS FALSE NEIGHBOUR: 'it returns false'. Refute it at one input. -/
def fnRowsAloneWrong : ChangeSpec := { name := "fnRowsAlone", fn := fun _ => fun
  | [d1, d2] => { results := [.lit (.bool false)], args := [d1, d2] }
  | _ => none }
def FnRowsAloneWrongFalsely : Prop := fnRowsAloneRow.holds Try.pinned (OpenSpec.ofChange fnRowsAloneWrong)

/-- 'laws.FnFused': WHATEVER THE INPUT: true; the input reads as it did. -/
def fnFusedSpec : ChangeSpec := { name := "fnFused", fn := fun _ => fun
  | [d1, d2] => { results := [.lit (.bool true)], args := [d1, d2] }
  | _ => none }
def fnFusedRow : OpenClaim := { program := "ytmbckkcgiafagaa", sum := "3e5524c873364c0387fc9a3c34466a84454d08e127638aff58d0f6661d26fa64", func := "loop.example/g01157/laws.FnFused", spec := "fnFused", inPlace := ["math.Float64frombits", "math.sqrt", "math.Float64bits", "math.archTrunc", "math.Float32frombits", "math.Float32bits"], unfollowed := true, recurses := true, apart := false }
def FnFusedSaid : Prop := fnFusedRow.holds Try.pinned (OpenSpec.ofChange fnFusedSpec)

/-- ITS FALSE NEIGHBOUR: 'it returns false'. Refute it at one input. -/
def fnFusedWrong : ChangeSpec := { name := "fnFused", fn := fun _ => fun
  | [d1, d2] => { results := [.lit (.bool false)], args := [d1, d2] }
  | _ => none }
def FnFusedWrongFalsely : Prop := fnFusedRow.holds Try.pinned (OpenSpec.ofChange fnFusedWrong)

/-- 'laws.FnShares': WHATEVER THE INPUT: true; the input reads as it did. -/
def fnSharesSpec : ChangeSpec := { name := "fnShares", fn := fun _ => fun
  | [d1, d2] => { results := [.lit (.bool true)], args := [d1, d2] }
  | _ => none }
def fnSharesRow : OpenClaim := { program := "ytmbckkcgiafagaa", sum := "3e5524c873364c0387fc9a3c34466a84454d08e127638aff58d0f6661d26fa64", func := "loop.example/g01157/laws.FnShares", spec := "fnShares", inPlace := ["math.Float64frombits", "math.sqrt"], apart := false }
def FnSharesSaid : Prop := fnSharesRow.holds Try.pinned (OpenSpec.ofChange fnSharesSpec)

/-- ITS FALSE NEIGHBOUR: 'it returns false'. Refute it at one input. -/
def fnSharesWrong : ChangeSpec := { name := "fnShares", fn := fun _ => fun
  | [d1, d2] => { results := [.lit (.bool false)], args := [d1, d2] }
  | _ => none }
def FnSharesWrongFalsely : Prop := fnSharesRow.holds Try.pinned (OpenSpec.ofChange fnSharesWrong)

/- THE SECOND FORM. 'bulk': how many values and letters a reading holds, each counted each time it is reached (what is shared counts as often as it is met; a slice's spare places count too). A statement '..UptoSaid' is the law's where the arguments, and the package variables that the reading takes, are together of bulk at most 1048576: NARROWER than '..Said'. Prove '..Said' where nothing that the law and all that it calls make is longer than what came in: it says more and counts as full. Else prove '..UptoSaid'. A law counts once. -/
mutual
def uptoBulk {H : Type} : DataW H → Nat
  | .lit (.string bytes) => bytes.length + 1
  | .lit _ => 1
  | .nil => 1
  | .ptr d => uptoBulk d + 1
  | .slice elems spare => uptoBulkAll elems + uptoBulkAll spare + 1
  | .agg parts => uptoBulkAll parts + 1
  | .iface _ d => uptoBulk d + 1
  | .map entries => uptoBulkEntries entries + 1
  | .held _ => 1
def uptoBulkAll {H : Type} : List (DataW H) → Nat
  | [] => 0
  | d :: r => uptoBulk d + uptoBulkAll r
def uptoBulkEntries {H : Type} : List (Lit × DataW H) → Nat
  | [] => 0
  | x :: r => uptoBulkEntry x + uptoBulkEntries r
def uptoBulkEntry {H : Type} : Lit × DataW H → Nat
  | (.string bytes, d) => bytes.length + uptoBulk d + 1
  | (_, d) => uptoBulk d + 1
 end
def uptoSmall : (H : Type) → List (DataW H) → Bool := fun _ ds => decide (uptoBulkAll ds ≤ 1048576)
def OpenSpec.upto (s : _root_.Go.ChangeSpec) : _root_.Go.OpenSpec := { _root_.Go.OpenSpec.ofChange s with cond := some uptoSmall }

/-- 'laws.FnReduced', WHERE WHAT IT READS IS OF BULK AT MOST 1048576: true; the input reads as it did. -/
def fnReducedUptoRow : OpenClaim := { program := "ytmbckkcgiafagaa", sum := "3e5524c873364c0387fc9a3c34466a84454d08e127638aff58d0f6661d26fa64", func := "loop.example/g01157/laws.FnReduced", spec := "fnReduced", inPlace := ["math.Float32frombits", "math.Float64bits"], unfollowed := true, recurses := true, apart := false, narrowed := true }
def FnReducedUptoSaid : Prop := fnReducedUptoRow.holds Try.pinned (OpenSpec.upto fnReducedSpec)

/-- 'laws.FnWorkers', WHERE WHAT IT READS IS OF BULK AT MOST 1048576: true; the input reads as it did. -/
def fnWorkersUptoRow : OpenClaim := { program := "ytmbckkcgiafagaa", sum := "3e5524c873364c0387fc9a3c34466a84454d08e127638aff58d0f6661d26fa64", func := "loop.example/g01157/laws.FnWorkers", spec := "fnWorkers", inPlace := ["math.Float32frombits", "math.Float64bits"], unfollowed := true, recurses := true, apart := false, narrowed := true }
def FnWorkersUptoSaid : Prop := fnWorkersUptoRow.holds Try.pinned (OpenSpec.upto fnWorkersSpec)

/-- 'laws.FnModelTapes', WHERE WHAT IT READS IS OF BULK AT MOST 1048576: true; the input reads as it did. -/
def fnModelTapesUptoRow : OpenClaim := { program := "ytmbckkcgiafagaa", sum := "3e5524c873364c0387fc9a3c34466a84454d08e127638aff58d0f6661d26fa64", func := "loop.example/g01157/laws.FnModelTapes", spec := "fnModelTapes", inPlace := ["math.Float32frombits", "math.Float64bits", "math.Float64frombits", "math.sqrt"], unfollowed := true, recurses := true, apart := false, narrowed := true }
def FnModelTapesUptoSaid : Prop := fnModelTapesUptoRow.holds Try.pinned (OpenSpec.upto fnModelTapesSpec)

/-- 'laws.FnRowsAlone', WHERE WHAT IT READS IS OF BULK AT MOST 1048576: true; the input reads as it did. -/
def fnRowsAloneUptoRow : OpenClaim := { program := "ytmbckkcgiafagaa", sum := "3e5524c873364c0387fc9a3c34466a84454d08e127638aff58d0f6661d26fa64", func := "loop.example/g01157/laws.FnRowsAlone", spec := "fnRowsAlone", inPlace := ["math.Float32frombits", "math.Float64frombits", "math.sqrt", "math.Float32bits"], unfollowed := true, recurses := true, apart := false, narrowed := true }
def FnRowsAloneUptoSaid : Prop := fnRowsAloneUptoRow.holds Try.pinned (OpenSpec.upto fnRowsAloneSpec)

/-- 'laws.FnFused', WHERE WHAT IT READS IS OF BULK AT MOST 1048576: true; the input reads as it did. -/
def fnFusedUptoRow : OpenClaim := { program := "ytmbckkcgiafagaa", sum := "3e5524c873364c0387fc9a3c34466a84454d08e127638aff58d0f6661d26fa64", func := "loop.example/g01157/laws.FnFused", spec := "fnFused", inPlace := ["math.Float64frombits", "math.sqrt", "math.Float64bits", "math.archTrunc", "math.Float32frombits", "math.Float32bits"], unfollowed := true, recurses := true, apart := false, narrowed := true }
def FnFusedUptoSaid : Prop := fnFusedUptoRow.holds Try.pinned (OpenSpec.upto fnFusedSpec)

/-- 'laws.FnShares', WHERE WHAT IT READS IS OF BULK AT MOST 1048576: true; the input reads as it did. -/
def fnSharesUptoRow : OpenClaim := { program := "ytmbckkcgiafagaa", sum := "3e5524c873364c0387fc9a3c34466a84454d08e127638aff58d0f6661d26fa64", func := "loop.example/g01157/laws.FnShares", spec := "fnShares", inPlace := ["math.Float64frombits", "math.sqrt"], apart := false, narrowed := true }
def FnSharesUptoSaid : Prop := fnSharesUptoRow.holds Try.pinned (OpenSpec.upto fnSharesSpec)

end Rows
end Go.Proofs.Ytmbckkcgiafagaa
