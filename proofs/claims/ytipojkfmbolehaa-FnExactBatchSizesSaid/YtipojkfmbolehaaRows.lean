/-
  No cell of these rows narrows 'for every input' (looked for: loops, veiled, ifaces, maps, wideKeys, modest, calm, conditions, laid).
  DERIVED. THE GIVEN ROWS OF THIS SEAT. 11 by the template 'for every input the law returns true; each argument reads behind the call as it read before'; 0 by the template 'total and deterministic' (their statements: YtipojkfmbolehaaTotals.lean).
  GIVEN WITH THE SEED: the statements are not yours to turn. If you find one false, say at which input.
  Laid BY PROGRAM, IN A SANDBOX (cutbox-rows.mjs): the forced cells as the released guide's own fill.sh prints them over the translation 958ae5c7d137de09… (all of the seat's roots in one cut). By AI agents, Wed Nov 11 2026. No macro, syntax, notation, axiom, sorry.
-/
import Derived.Test.YtipojkfmbolehaaChecked
import GoSem.Claim
import GoSem.ClaimJoined
import GoSem.ClaimMapViews
import Derived.JoinedTies
import Derived.KernelRfl
namespace Go.Proofs.Ytipojkfmbolehaa
/- THE CELL 'sum', in the pinned program and in every row, IS THE sha256 OF THE DUMP (.gsa) THAT YtipojkfmbolehaaProg.lean LOADS. Nothing in Lean hashes anything: it is a label: what it is worth is what the hold of that sum in a sandbox is worth. -/
noncomputable def Try.pinned : Pinned := { name := "ytipojkfmbolehaa", sum := "958ae5c7d137de098cf8d2048be67e51befcc92820c87597ae8e99d23bc2c4aa", checked := Try.checked }
namespace Rows
def none {H : Type} : Left H := { results := [], args := [] }

/-- 'laws.FnExactBatchSizes': WHATEVER THE INPUT: true; the input reads as it did. -/
def fnExactBatchSizesSpec : ChangeSpec := { name := "fnExactBatchSizes", fn := fun _ => fun
  | [d] => { results := [.lit (.bool true)], args := [d] }
  | _ => none }
def fnExactBatchSizesRow : OpenClaim := { program := "ytipojkfmbolehaa", sum := "958ae5c7d137de098cf8d2048be67e51befcc92820c87597ae8e99d23bc2c4aa", func := "loop.example/g01157/laws.FnExactBatchSizes", spec := "fnExactBatchSizes", apart := false }
def FnExactBatchSizesSaid : Prop := fnExactBatchSizesRow.holds Try.pinned (OpenSpec.ofChange fnExactBatchSizesSpec)

/-- ITS FALSE NEIGHBOUR: 'it returns false'. Refute it at one input. -/
def fnExactBatchSizesWrong : ChangeSpec := { name := "fnExactBatchSizes", fn := fun _ => fun
  | [d] => { results := [.lit (.bool false)], args := [d] }
  | _ => none }
def FnExactBatchSizesWrongFalsely : Prop := fnExactBatchSizesRow.holds Try.pinned (OpenSpec.ofChange fnExactBatchSizesWrong)

/-- 'laws.FnReduced': WHATEVER THE INPUT: true; the input reads as it did. -/
def fnReducedSpec : ChangeSpec := { name := "fnReduced", fn := fun _ => fun
  | [d1, d2] => { results := [.lit (.bool true)], args := [d1, d2] }
  | _ => none }
def fnReducedRow : OpenClaim := { program := "ytipojkfmbolehaa", sum := "958ae5c7d137de098cf8d2048be67e51befcc92820c87597ae8e99d23bc2c4aa", func := "loop.example/g01157/laws.FnReduced", spec := "fnReduced", inPlace := ["math.Float32frombits", "math.Float64bits"], unfollowed := true, recurses := true, apart := false }
def FnReducedSaid : Prop := fnReducedRow.holds Try.pinned (OpenSpec.ofChange fnReducedSpec)

/-- ITS FALSE NEIGHBOUR: 'it returns false'. Refute it at one input. -/
def fnReducedWrong : ChangeSpec := { name := "fnReduced", fn := fun _ => fun
  | [d1, d2] => { results := [.lit (.bool false)], args := [d1, d2] }
  | _ => none }
def FnReducedWrongFalsely : Prop := fnReducedRow.holds Try.pinned (OpenSpec.ofChange fnReducedWrong)

/-- 'laws.FnModelTapes': WHATEVER THE INPUT: true; the input reads as it did. -/
def fnModelTapesSpec : ChangeSpec := { name := "fnModelTapes", fn := fun _ => fun
  | [d1, d2] => { results := [.lit (.bool true)], args := [d1, d2] }
  | _ => none }
def fnModelTapesRow : OpenClaim := { program := "ytipojkfmbolehaa", sum := "958ae5c7d137de098cf8d2048be67e51befcc92820c87597ae8e99d23bc2c4aa", func := "loop.example/g01157/laws.FnModelTapes", spec := "fnModelTapes", inPlace := ["math.Float32frombits", "math.Float64bits", "math.Float64frombits", "math.sqrt"], unfollowed := true, recurses := true, apart := false }
def FnModelTapesSaid : Prop := fnModelTapesRow.holds Try.pinned (OpenSpec.ofChange fnModelTapesSpec)

/-- ITS FALSE NEIGHBOUR: 'it returns false'. Refute it at one input. -/
def fnModelTapesWrong : ChangeSpec := { name := "fnModelTapes", fn := fun _ => fun
  | [d1, d2] => { results := [.lit (.bool false)], args := [d1, d2] }
  | _ => none }
def FnModelTapesWrongFalsely : Prop := fnModelTapesRow.holds Try.pinned (OpenSpec.ofChange fnModelTapesWrong)

/-- 'laws.FnExactLongestDelay': WHATEVER THE INPUT: true; the input reads as it did. -/
def fnExactLongestDelaySpec : ChangeSpec := { name := "fnExactLongestDelay", fn := fun _ => fun
  | [d1, d2] => { results := [.lit (.bool true)], args := [d1, d2] }
  | _ => none }
def fnExactLongestDelayRow : OpenClaim := { program := "ytipojkfmbolehaa", sum := "958ae5c7d137de098cf8d2048be67e51befcc92820c87597ae8e99d23bc2c4aa", func := "loop.example/g01157/laws.FnExactLongestDelay", spec := "fnExactLongestDelay", apart := false }
def FnExactLongestDelaySaid : Prop := fnExactLongestDelayRow.holds Try.pinned (OpenSpec.ofChange fnExactLongestDelaySpec)

/-- ITS FALSE NEIGHBOUR: 'it returns false'. Refute it at one input. -/
def fnExactLongestDelayWrong : ChangeSpec := { name := "fnExactLongestDelay", fn := fun _ => fun
  | [d1, d2] => { results := [.lit (.bool false)], args := [d1, d2] }
  | _ => none }
def FnExactLongestDelayWrongFalsely : Prop := fnExactLongestDelayRow.holds Try.pinned (OpenSpec.ofChange fnExactLongestDelayWrong)

/-- 'laws.FnExactIsWhole': WHATEVER THE INPUT: true; the input reads as it did. -/
def fnExactIsWholeSpec : ChangeSpec := { name := "fnExactIsWhole", fn := fun _ => fun
  | [d1, d2] => { results := [.lit (.bool true)], args := [d1, d2] }
  | _ => none }
def fnExactIsWholeRow : OpenClaim := { program := "ytipojkfmbolehaa", sum := "958ae5c7d137de098cf8d2048be67e51befcc92820c87597ae8e99d23bc2c4aa", func := "loop.example/g01157/laws.FnExactIsWhole", spec := "fnExactIsWhole", inPlace := ["math.Float64bits", "math.Float64frombits", "math.archTrunc"], unfollowed := true, recurses := true, apart := false }
def FnExactIsWholeSaid : Prop := fnExactIsWholeRow.holds Try.pinned (OpenSpec.ofChange fnExactIsWholeSpec)

/-- ITS FALSE NEIGHBOUR: 'it returns false'. Refute it at one input. -/
def fnExactIsWholeWrong : ChangeSpec := { name := "fnExactIsWhole", fn := fun _ => fun
  | [d1, d2] => { results := [.lit (.bool false)], args := [d1, d2] }
  | _ => none }
def FnExactIsWholeWrongFalsely : Prop := fnExactIsWholeRow.holds Try.pinned (OpenSpec.ofChange fnExactIsWholeWrong)

/-- 'laws.FnExactFuseLinear': WHATEVER THE INPUT: true; the input reads as it did. -/
def fnExactFuseLinearSpec : ChangeSpec := { name := "fnExactFuseLinear", fn := fun _ => fun
  | [d1, d2] => { results := [.lit (.bool true)], args := [d1, d2] }
  | _ => none }
def fnExactFuseLinearRow : OpenClaim := { program := "ytipojkfmbolehaa", sum := "958ae5c7d137de098cf8d2048be67e51befcc92820c87597ae8e99d23bc2c4aa", func := "loop.example/g01157/laws.FnExactFuseLinear", spec := "fnExactFuseLinear", apart := false }
def FnExactFuseLinearSaid : Prop := fnExactFuseLinearRow.holds Try.pinned (OpenSpec.ofChange fnExactFuseLinearSpec)

/-- ITS FALSE NEIGHBOUR: 'it returns false'. Refute it at one input. -/
def fnExactFuseLinearWrong : ChangeSpec := { name := "fnExactFuseLinear", fn := fun _ => fun
  | [d1, d2] => { results := [.lit (.bool false)], args := [d1, d2] }
  | _ => none }
def FnExactFuseLinearWrongFalsely : Prop := fnExactFuseLinearRow.holds Try.pinned (OpenSpec.ofChange fnExactFuseLinearWrong)

/-- 'laws.FnExactReduceLists': WHATEVER THE INPUT: true; the input reads as it did. -/
def fnExactReduceListsSpec : ChangeSpec := { name := "fnExactReduceLists", fn := fun _ => fun
  | [d1, d2] => { results := [.lit (.bool true)], args := [d1, d2] }
  | _ => none }
def fnExactReduceListsRow : OpenClaim := { program := "ytipojkfmbolehaa", sum := "958ae5c7d137de098cf8d2048be67e51befcc92820c87597ae8e99d23bc2c4aa", func := "loop.example/g01157/laws.FnExactReduceLists", spec := "fnExactReduceLists", unfollowed := true, recurses := true, apart := false }
def FnExactReduceListsSaid : Prop := fnExactReduceListsRow.holds Try.pinned (OpenSpec.ofChange fnExactReduceListsSpec)

/-- ITS FALSE NEIGHBOUR: 'it returns false'. Refute it at one input. -/
def fnExactReduceListsWrong : ChangeSpec := { name := "fnExactReduceLists", fn := fun _ => fun
  | [d1, d2] => { results := [.lit (.bool false)], args := [d1, d2] }
  | _ => none }
def FnExactReduceListsWrongFalsely : Prop := fnExactReduceListsRow.holds Try.pinned (OpenSpec.ofChange fnExactReduceListsWrong)

/-- 'laws.FnExactValidPlan': WHATEVER THE INPUT: true; the input reads as it did. -/
def fnExactValidPlanSpec : ChangeSpec := { name := "fnExactValidPlan", fn := fun _ => fun
  | [d] => { results := [.lit (.bool true)], args := [d] }
  | _ => none }
def fnExactValidPlanRow : OpenClaim := { program := "ytipojkfmbolehaa", sum := "958ae5c7d137de098cf8d2048be67e51befcc92820c87597ae8e99d23bc2c4aa", func := "loop.example/g01157/laws.FnExactValidPlan", spec := "fnExactValidPlan", apart := false }
def FnExactValidPlanSaid : Prop := fnExactValidPlanRow.holds Try.pinned (OpenSpec.ofChange fnExactValidPlanSpec)

/-- ITS FALSE NEIGHBOUR: 'it returns false'. Refute it at one input. -/
def fnExactValidPlanWrong : ChangeSpec := { name := "fnExactValidPlan", fn := fun _ => fun
  | [d] => { results := [.lit (.bool false)], args := [d] }
  | _ => none }
def FnExactValidPlanWrongFalsely : Prop := fnExactValidPlanRow.holds Try.pinned (OpenSpec.ofChange fnExactValidPlanWrong)

/-- 'laws.FnExactPickRows': WHATEVER THE INPUT: true; the input reads as it did. -/
def fnExactPickRowsSpec : ChangeSpec := { name := "fnExactPickRows", fn := fun _ => fun
  | [d1, d2] => { results := [.lit (.bool true)], args := [d1, d2] }
  | _ => none }
def fnExactPickRowsRow : OpenClaim := { program := "ytipojkfmbolehaa", sum := "958ae5c7d137de098cf8d2048be67e51befcc92820c87597ae8e99d23bc2c4aa", func := "loop.example/g01157/laws.FnExactPickRows", spec := "fnExactPickRows", unfollowed := true, recurses := true, apart := false }
def FnExactPickRowsSaid : Prop := fnExactPickRowsRow.holds Try.pinned (OpenSpec.ofChange fnExactPickRowsSpec)

/-- ITS FALSE NEIGHBOUR: 'it returns false'. Refute it at one input. -/
def fnExactPickRowsWrong : ChangeSpec := { name := "fnExactPickRows", fn := fun _ => fun
  | [d1, d2] => { results := [.lit (.bool false)], args := [d1, d2] }
  | _ => none }
def FnExactPickRowsWrongFalsely : Prop := fnExactPickRowsRow.holds Try.pinned (OpenSpec.ofChange fnExactPickRowsWrong)

/-- 'laws.FnExactPlanRoom': WHATEVER THE INPUT: true; the input reads as it did. -/
def fnExactPlanRoomSpec : ChangeSpec := { name := "fnExactPlanRoom", fn := fun _ => fun
  | [d] => { results := [.lit (.bool true)], args := [d] }
  | _ => none }
def fnExactPlanRoomRow : OpenClaim := { program := "ytipojkfmbolehaa", sum := "958ae5c7d137de098cf8d2048be67e51befcc92820c87597ae8e99d23bc2c4aa", func := "loop.example/g01157/laws.FnExactPlanRoom", spec := "fnExactPlanRoom", apart := false }
def FnExactPlanRoomSaid : Prop := fnExactPlanRoomRow.holds Try.pinned (OpenSpec.ofChange fnExactPlanRoomSpec)

/-- ITS FALSE NEIGHBOUR: 'it returns false'. Refute it at one input. -/
def fnExactPlanRoomWrong : ChangeSpec := { name := "fnExactPlanRoom", fn := fun _ => fun
  | [d] => { results := [.lit (.bool false)], args := [d] }
  | _ => none }
def FnExactPlanRoomWrongFalsely : Prop := fnExactPlanRoomRow.holds Try.pinned (OpenSpec.ofChange fnExactPlanRoomWrong)

/-- 'laws.FnExactPlanProducts': WHATEVER THE INPUT: true; the input reads as it did. -/
def fnExactPlanProductsSpec : ChangeSpec := { name := "fnExactPlanProducts", fn := fun _ => fun
  | [d] => { results := [.lit (.bool true)], args := [d] }
  | _ => none }
def fnExactPlanProductsRow : OpenClaim := { program := "ytipojkfmbolehaa", sum := "958ae5c7d137de098cf8d2048be67e51befcc92820c87597ae8e99d23bc2c4aa", func := "loop.example/g01157/laws.FnExactPlanProducts", spec := "fnExactPlanProducts", apart := false }
def FnExactPlanProductsSaid : Prop := fnExactPlanProductsRow.holds Try.pinned (OpenSpec.ofChange fnExactPlanProductsSpec)

/-- ITS FALSE NEIGHBOUR: 'it returns false'. Refute it at one input. -/
def fnExactPlanProductsWrong : ChangeSpec := { name := "fnExactPlanProducts", fn := fun _ => fun
  | [d] => { results := [.lit (.bool false)], args := [d] }
  | _ => none }
def FnExactPlanProductsWrongFalsely : Prop := fnExactPlanProductsRow.holds Try.pinned (OpenSpec.ofChange fnExactPlanProductsWrong)

/- THE SECOND FORM. 'bulk': how many values and letters a reading holds, each counted each time it is reached (what is shared counts as often as it is met; a slice's spare places count too). A statement '..UptoSaid' is the law's where the arguments, and the package variables that the reading takes, are together of bulk at most 1048576: NARROWER than '..Said'. Prove '..Said' where nothing that the law and all that it calls make is longer than what came in: it says more and counts as full. Else prove '..UptoSaid'. A law counts once. -/
mutual
def uptoBulk {H : Type} : DataW H → Nat
  | .lit (.string bytes) => bytes.length + 1
  | .lit _ => 1
  | .nil => 1
  | .ptr d => uptoBulk d + 1
  | .slice elems spare => uptoBulkAll elems + uptoBulkAll spare + 1
  | .agg parts => uptoBulkAll parts + 1
  | .iface _ d => uptoBulk d + 1
  | .map entries => uptoBulkEntries entries + 1
  | .held _ => 1
def uptoBulkAll {H : Type} : List (DataW H) → Nat
  | [] => 0
  | d :: r => uptoBulk d + uptoBulkAll r
def uptoBulkEntries {H : Type} : List (Lit × DataW H) → Nat
  | [] => 0
  | x :: r => uptoBulkEntry x + uptoBulkEntries r
def uptoBulkEntry {H : Type} : Lit × DataW H → Nat
  | (.string bytes, d) => bytes.length + uptoBulk d + 1
  | (_, d) => uptoBulk d + 1
 end
def uptoSmall : (H : Type) → List (DataW H) → Bool := fun _ ds => decide (uptoBulkAll ds ≤ 1048576)
def OpenSpec.upto (s : _root_.Go.ChangeSpec) : _root_.Go.OpenSpec := { _root_.Go.OpenSpec.ofChange s with cond := some uptoSmall }

/-- 'laws.FnExactBatchSizes', WHERE WHAT IT READS IS OF BULK AT MOST 1048576: true; the input reads as it did. -/
def fnExactBatchSizesUptoRow : OpenClaim := { program := "ytipojkfmbolehaa", sum := "958ae5c7d137de098cf8d2048be67e51befcc92820c87597ae8e99d23bc2c4aa", func := "loop.example/g01157/laws.FnExactBatchSizes", spec := "fnExactBatchSizes", apart := false, narrowed := true }
def FnExactBatchSizesUptoSaid : Prop := fnExactBatchSizesUptoRow.holds Try.pinned (OpenSpec.upto fnExactBatchSizesSpec)

/-- 'laws.FnReduced', WHERE WHAT IT READS IS OF BULK AT MOST 1048576: true; the input reads as it did. -/
def fnReducedUptoRow : OpenClaim := { program := "ytipojkfmbolehaa", sum := "958ae5c7d137de098cf8d2048be67e51befcc92820c87597ae8e99d23bc2c4aa", func := "loop.example/g01157/laws.FnReduced", spec := "fnReduced", inPlace := ["math.Float32frombits", "math.Float64bits"], unfollowed := true, recurses := true, apart := false, narrowed := true }
def FnReducedUptoSaid : Prop := fnReducedUptoRow.holds Try.pinned (OpenSpec.upto fnReducedSpec)

/-- 'laws.FnModelTapes', WHERE WHAT IT READS IS OF BULK AT MOST 1048576: true; the input reads as it did. -/
def fnModelTapesUptoRow : OpenClaim := { program := "ytipojkfmbolehaa", sum := "958ae5c7d137de098cf8d2048be67e51befcc92820c87597ae8e99d23bc2c4aa", func := "loop.example/g01157/laws.FnModelTapes", spec := "fnModelTapes", inPlace := ["math.Float32frombits", "math.Float64bits", "math.Float64frombits", "math.sqrt"], unfollowed := true, recurses := true, apart := false, narrowed := true }
def FnModelTapesUptoSaid : Prop := fnModelTapesUptoRow.holds Try.pinned (OpenSpec.upto fnModelTapesSpec)

/-- 'laws.FnExactLongestDelay', WHERE WHAT IT READS IS OF BULK AT MOST 1048576: true; the input reads as it did. -/
def fnExactLongestDelayUptoRow : OpenClaim := { program := "ytipojkfmbolehaa", sum := "958ae5c7d137de098cf8d2048be67e51befcc92820c87597ae8e99d23bc2c4aa", func := "loop.example/g01157/laws.FnExactLongestDelay", spec := "fnExactLongestDelay", apart := false, narrowed := true }
def FnExactLongestDelayUptoSaid : Prop := fnExactLongestDelayUptoRow.holds Try.pinned (OpenSpec.upto fnExactLongestDelaySpec)

/-- 'laws.FnExactIsWhole', WHERE WHAT IT READS IS OF BULK AT MOST 1048576: true; the input reads as it did. -/
def fnExactIsWholeUptoRow : OpenClaim := { program := "ytipojkfmbolehaa", sum := "958ae5c7d137de098cf8d2048be67e51befcc92820c87597ae8e99d23bc2c4aa", func := "loop.example/g01157/laws.FnExactIsWhole", spec := "fnExactIsWhole", inPlace := ["math.Float64bits", "math.Float64frombits", "math.archTrunc"], unfollowed := true, recurses := true, apart := false, narrowed := true }
def FnExactIsWholeUptoSaid : Prop := fnExactIsWholeUptoRow.holds Try.pinned (OpenSpec.upto fnExactIsWholeSpec)

/-- 'laws.FnExactFuseLinear', WHERE WHAT IT READS IS OF BULK AT MOST 1048576: true; the input reads as it did. -/
def fnExactFuseLinearUptoRow : OpenClaim := { program := "ytipojkfmbolehaa", sum := "958ae5c7d137de098cf8d2048be67e51befcc92820c87597ae8e99d23bc2c4aa", func := "loop.example/g01157/laws.FnExactFuseLinear", spec := "fnExactFuseLinear", apart := false, narrowed := true }
def FnExactFuseLinearUptoSaid : Prop := fnExactFuseLinearUptoRow.holds Try.pinned (OpenSpec.upto fnExactFuseLinearSpec)

/-- 'laws.FnExactReduceLists', WHERE WHAT IT READS IS OF BULK AT MOST 1048576: true; the input reads as it did. -/
def fnExactReduceListsUptoRow : OpenClaim := { program := "ytipojkfmbolehaa", sum := "958ae5c7d137de098cf8d2048be67e51befcc92820c87597ae8e99d23bc2c4aa", func := "loop.example/g01157/laws.FnExactReduceLists", spec := "fnExactReduceLists", unfollowed := true, recurses := true, apart := false, narrowed := true }
def FnExactReduceListsUptoSaid : Prop := fnExactReduceListsUptoRow.holds Try.pinned (OpenSpec.upto fnExactReduceListsSpec)

/-- 'laws.FnExactValidPlan', WHERE WHAT IT READS IS OF BULK AT MOST 1048576: true; the input reads as it did. -/
def fnExactValidPlanUptoRow : OpenClaim := { program := "ytipojkfmbolehaa", sum := "958ae5c7d137de098cf8d2048be67e51befcc92820c87597ae8e99d23bc2c4aa", func := "loop.example/g01157/laws.FnExactValidPlan", spec := "fnExactValidPlan", apart := false, narrowed := true }
def FnExactValidPlanUptoSaid : Prop := fnExactValidPlanUptoRow.holds Try.pinned (OpenSpec.upto fnExactValidPlanSpec)

/-- 'laws.FnExactPickRows', WHERE WHAT IT READS IS OF BULK AT MOST 1048576: true; the input reads as it did. -/
def fnExactPickRowsUptoRow : OpenClaim := { program := "ytipojkfmbolehaa", sum := "958ae5c7d137de098cf8d2048be67e51befcc92820c87597ae8e99d23bc2c4aa", func := "loop.example/g01157/laws.FnExactPickRows", spec := "fnExactPickRows", unfollowed := true, recurses := true, apart := false, narrowed := true }
def FnExactPickRowsUptoSaid : Prop := fnExactPickRowsUptoRow.holds Try.pinned (OpenSpec.upto fnExactPickRowsSpec)

/-- 'laws.FnExactPlanRoom', WHERE WHAT IT READS IS OF BULK AT MOST 1048576: true; the input reads as it did. -/
def fnExactPlanRoomUptoRow : OpenClaim := { program := "ytipojkfmbolehaa", sum := "958ae5c7d137de098cf8d2048be67e51befcc92820c87597ae8e99d23bc2c4aa", func := "loop.example/g01157/laws.FnExactPlanRoom", spec := "fnExactPlanRoom", apart := false, narrowed := true }
def FnExactPlanRoomUptoSaid : Prop := fnExactPlanRoomUptoRow.holds Try.pinned (OpenSpec.upto fnExactPlanRoomSpec)

/-- 'laws.FnExactPlanProducts', WHERE WHAT IT READS IS OF BULK AT MOST 1048576: true; the input reads as it did. -/
def fnExactPlanProductsUptoRow : OpenClaim := { program := "ytipojkfmbolehaa", sum := "958ae5c7d137de098cf8d2048be67e51befcc92820c87597ae8e99d23bc2c4aa", func := "loop.example/g01157/laws.FnExactPlanProducts", spec := "fnExactPlanProducts", apart := false, narrowed := true }
def FnExactPlanProductsUptoSaid : Prop := fnExactPlanProductsUptoRow.holds Try.pinned (OpenSpec.upto fnExactPlanProductsSpec)

end Rows
end Go.Proofs.Ytipojkfmbolehaa
