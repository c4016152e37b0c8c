/-
  No cell of these rows narrows 'for every input' (looked for: loops, veiled, ifaces, maps, wideKeys, modest, calm, conditions, laid).
  DERIVED. THE GIVEN ROWS OF THIS SEAT. 7 by the template 'for every input the law returns true; each argument reads behind the call as it read before'; 0 by the template 'total and deterministic' (their statements: YtbdcjhhphkckcaaTotals.lean).
  GIVEN WITH THE SEED: the statements are not yours to turn. If you find one false, say at which input.
  Laid BY PROGRAM, IN A SANDBOX (cutbox-rows.mjs): the forced cells as the released guide's own fill.sh prints them over the translation 8359b109d31dadfa… (all of the seat's roots in one cut). By AI agents, Wed Nov 11 2026. No macro, syntax, notation, axiom, sorry.
-/
import Derived.Test.YtbdcjhhphkckcaaChecked
import GoSem.Claim
import GoSem.ClaimJoined
import GoSem.ClaimMapViews
import Derived.JoinedTies
import Derived.KernelRfl
namespace Go.Proofs.Ytbdcjhhphkckcaa
/- THE CELL 'sum', in the pinned program and in every row, IS THE sha256 OF THE DUMP (.gsa) THAT YtbdcjhhphkckcaaProg.lean LOADS. Nothing in Lean hashes anything: it is a label: what it is worth is what the hold of that sum in a sandbox is worth. -/
noncomputable def Try.pinned : Pinned := { name := "ytbdcjhhphkckcaa", sum := "8359b109d31dadfa50f7b91409b93d404f3ae389492c2f0db1b421fae9e065ba", checked := Try.checked }
namespace Rows
def none {H : Type} : Left H := { results := [], args := [] }

/-- 'laws.FnExactValidLab': WHATEVER THE INPUT: true; the input reads as it did. -/
def fnExactValidLabSpec : ChangeSpec := { name := "fnExactValidLab", fn := fun _ => fun
  | [d] => { results := [.lit (.bool true)], args := [d] }
  | _ => none }
def fnExactValidLabRow : OpenClaim := { program := "ytbdcjhhphkckcaa", sum := "8359b109d31dadfa50f7b91409b93d404f3ae389492c2f0db1b421fae9e065ba", func := "loop.example/g01157/laws.FnExactValidLab", spec := "fnExactValidLab", unfollowed := true, recurses := true, apart := false }
def FnExactValidLabSaid : Prop := fnExactValidLabRow.holds Try.pinned (OpenSpec.ofChange fnExactValidLabSpec)

/-- ITS FALSE NEIGHBOUR: 'it returns false'. Refute it at one input. -/
def fnExactValidLabWrong : ChangeSpec := { name := "fnExactValidLab", fn := fun _ => fun
  | [d] => { results := [.lit (.bool false)], args := [d] }
  | _ => none }
def FnExactValidLabWrongFalsely : Prop := fnExactValidLabRow.holds Try.pinned (OpenSpec.ofChange fnExactValidLabWrong)

/-- 'laws.FnExactNewTraining': WHATEVER THE INPUT: true; the input reads as it did. -/
def fnExactNewTrainingSpec : ChangeSpec := { name := "fnExactNewTraining", fn := fun _ => fun
  | [d1, d2, d3] => { results := [.lit (.bool true)], args := [d1, d2, d3] }
  | _ => none }
def fnExactNewTrainingRow : OpenClaim := { program := "ytbdcjhhphkckcaa", sum := "8359b109d31dadfa50f7b91409b93d404f3ae389492c2f0db1b421fae9e065ba", func := "loop.example/g01157/laws.FnExactNewTraining", spec := "fnExactNewTraining", unfollowed := true, recurses := true, apart := false }
def FnExactNewTrainingSaid : Prop := fnExactNewTrainingRow.holds Try.pinned (OpenSpec.ofChange fnExactNewTrainingSpec)

/-- ITS FALSE NEIGHBOUR: 'it returns false'. Refute it at one input. -/
def fnExactNewTrainingWrong : ChangeSpec := { name := "fnExactNewTraining", fn := fun _ => fun
  | [d1, d2, d3] => { results := [.lit (.bool false)], args := [d1, d2, d3] }
  | _ => none }
def FnExactNewTrainingWrongFalsely : Prop := fnExactNewTrainingRow.holds Try.pinned (OpenSpec.ofChange fnExactNewTrainingWrong)

/-- 'laws.FnExactNewLab': WHATEVER THE INPUT: true; the input reads as it did. -/
def fnExactNewLabSpec : ChangeSpec := { name := "fnExactNewLab", fn := fun _ => fun
  | [] => { results := [.lit (.bool true)], args := [] }
  | _ => none }
def fnExactNewLabRow : OpenClaim := { program := "ytbdcjhhphkckcaa", sum := "8359b109d31dadfa50f7b91409b93d404f3ae389492c2f0db1b421fae9e065ba", func := "loop.example/g01157/laws.FnExactNewLab", spec := "fnExactNewLab", unfollowed := true, recurses := true, apart := false }
def FnExactNewLabSaid : Prop := fnExactNewLabRow.holds Try.pinned (OpenSpec.ofChange fnExactNewLabSpec)

/-- ITS FALSE NEIGHBOUR: 'it returns false'. Refute it at one input. -/
def fnExactNewLabWrong : ChangeSpec := { name := "fnExactNewLab", fn := fun _ => fun
  | [] => { results := [.lit (.bool false)], args := [] }
  | _ => none }
def FnExactNewLabWrongFalsely : Prop := fnExactNewLabRow.holds Try.pinned (OpenSpec.ofChange fnExactNewLabWrong)

/-- 'laws.FnExactPickRows': WHATEVER THE INPUT: true; the input reads as it did. -/
def fnExactPickRowsSpec : ChangeSpec := { name := "fnExactPickRows", fn := fun _ => fun
  | [d1, d2] => { results := [.lit (.bool true)], args := [d1, d2] }
  | _ => none }
def fnExactPickRowsRow : OpenClaim := { program := "ytbdcjhhphkckcaa", sum := "8359b109d31dadfa50f7b91409b93d404f3ae389492c2f0db1b421fae9e065ba", func := "loop.example/g01157/laws.FnExactPickRows", spec := "fnExactPickRows", unfollowed := true, recurses := true, apart := false }
def FnExactPickRowsSaid : Prop := fnExactPickRowsRow.holds Try.pinned (OpenSpec.ofChange fnExactPickRowsSpec)

/-- ITS FALSE NEIGHBOUR: 'it returns false'. Refute it at one input. -/
def fnExactPickRowsWrong : ChangeSpec := { name := "fnExactPickRows", fn := fun _ => fun
  | [d1, d2] => { results := [.lit (.bool false)], args := [d1, d2] }
  | _ => none }
def FnExactPickRowsWrongFalsely : Prop := fnExactPickRowsRow.holds Try.pinned (OpenSpec.ofChange fnExactPickRowsWrong)

/-- 'laws.FnExactReduceLists': WHATEVER THE INPUT: true; the input reads as it did. -/
def fnExactReduceListsSpec : ChangeSpec := { name := "fnExactReduceLists", fn := fun _ => fun
  | [d1, d2] => { results := [.lit (.bool true)], args := [d1, d2] }
  | _ => none }
def fnExactReduceListsRow : OpenClaim := { program := "ytbdcjhhphkckcaa", sum := "8359b109d31dadfa50f7b91409b93d404f3ae389492c2f0db1b421fae9e065ba", func := "loop.example/g01157/laws.FnExactReduceLists", spec := "fnExactReduceLists", unfollowed := true, recurses := true, apart := false }
def FnExactReduceListsSaid : Prop := fnExactReduceListsRow.holds Try.pinned (OpenSpec.ofChange fnExactReduceListsSpec)

/-- ITS FALSE NEIGHBOUR: 'it returns false'. Refute it at one input. -/
def fnExactReduceListsWrong : ChangeSpec := { name := "fnExactReduceLists", fn := fun _ => fun
  | [d1, d2] => { results := [.lit (.bool false)], args := [d1, d2] }
  | _ => none }
def FnExactReduceListsWrongFalsely : Prop := fnExactReduceListsRow.holds Try.pinned (OpenSpec.ofChange fnExactReduceListsWrong)

/-- 'laws.FnExactCompileModel': WHATEVER THE INPUT: true; the input reads as it did. -/
def fnExactCompileModelSpec : ChangeSpec := { name := "fnExactCompileModel", fn := fun _ => fun
  | [d] => { results := [.lit (.bool true)], args := [d] }
  | _ => none }
def fnExactCompileModelRow : OpenClaim := { program := "ytbdcjhhphkckcaa", sum := "8359b109d31dadfa50f7b91409b93d404f3ae389492c2f0db1b421fae9e065ba", func := "loop.example/g01157/laws.FnExactCompileModel", spec := "fnExactCompileModel", unfollowed := true, recurses := true, apart := false }
def FnExactCompileModelSaid : Prop := fnExactCompileModelRow.holds Try.pinned (OpenSpec.ofChange fnExactCompileModelSpec)

/-- ITS FALSE NEIGHBOUR: 'it returns false'. Refute it at one input. -/
def fnExactCompileModelWrong : ChangeSpec := { name := "fnExactCompileModel", fn := fun _ => fun
  | [d] => { results := [.lit (.bool false)], args := [d] }
  | _ => none }
def FnExactCompileModelWrongFalsely : Prop := fnExactCompileModelRow.holds Try.pinned (OpenSpec.ofChange fnExactCompileModelWrong)

/-- 'laws.FnExactIsWhole': WHATEVER THE INPUT: true; the input reads as it did. -/
def fnExactIsWholeSpec : ChangeSpec := { name := "fnExactIsWhole", fn := fun _ => fun
  | [d1, d2] => { results := [.lit (.bool true)], args := [d1, d2] }
  | _ => none }
def fnExactIsWholeRow : OpenClaim := { program := "ytbdcjhhphkckcaa", sum := "8359b109d31dadfa50f7b91409b93d404f3ae389492c2f0db1b421fae9e065ba", func := "loop.example/g01157/laws.FnExactIsWhole", spec := "fnExactIsWhole", inPlace := ["math.Float64bits", "math.Float64frombits", "math.archTrunc"], unfollowed := true, recurses := true, apart := false }
def FnExactIsWholeSaid : Prop := fnExactIsWholeRow.holds Try.pinned (OpenSpec.ofChange fnExactIsWholeSpec)

/-- ITS FALSE NEIGHBOUR: 'it returns false'. Refute it at one input. -/
def fnExactIsWholeWrong : ChangeSpec := { name := "fnExactIsWhole", fn := fun _ => fun
  | [d1, d2] => { results := [.lit (.bool false)], args := [d1, d2] }
  | _ => none }
def FnExactIsWholeWrongFalsely : Prop := fnExactIsWholeRow.holds Try.pinned (OpenSpec.ofChange fnExactIsWholeWrong)

/- THE SECOND FORM. 'bulk': how many values and letters a reading holds, each counted each time it is reached (what is shared counts as often as it is met; a slice's spare places count too). A statement '..UptoSaid' is the law's where the arguments, and the package variables that the reading takes, are together of bulk at most 1048576: NARROWER than '..Said'. Prove '..Said' where nothing that the law and all that it calls make is longer than what came in: it says more and counts as full. Else prove '..UptoSaid'. A law counts once. -/
mutual
def uptoBulk {H : Type} : DataW H → Nat
  | .lit (.string bytes) => bytes.length + 1
  | .lit _ => 1
  | .nil => 1
  | .ptr d => uptoBulk d + 1
  | .slice elems spare => uptoBulkAll elems + uptoBulkAll spare + 1
  | .agg parts => uptoBulkAll parts + 1
  | .iface _ d => uptoBulk d + 1
  | .map entries => uptoBulkEntries entries + 1
  | .held _ => 1
def uptoBulkAll {H : Type} : List (DataW H) → Nat
  | [] => 0
  | d :: r => uptoBulk d + uptoBulkAll r
def uptoBulkEntries {H : Type} : List (Lit × DataW H) → Nat
  | [] => 0
  | x :: r => uptoBulkEntry x + uptoBulkEntries r
def uptoBulkEntry {H : Type} : Lit × DataW H → Nat
  | (.string bytes, d) => bytes.length + uptoBulk d + 1
  | (_, d) => uptoBulk d + 1
 end
def uptoSmall : (H : Type) → List (DataW H) → Bool := fun _ ds => decide (uptoBulkAll ds ≤ 1048576)
def OpenSpec.upto (s : _root_.Go.ChangeSpec) : _root_.Go.OpenSpec := { _root_.Go.OpenSpec.ofChange s with cond := some uptoSmall }

/-- 'laws.FnExactValidLab', WHERE WHAT IT READS IS OF BULK AT MOST 1048576: true; the input reads as it did. -/
def fnExactValidLabUptoRow : OpenClaim := { program := "ytbdcjhhphkckcaa", sum := "8359b109d31dadfa50f7b91409b93d404f3ae389492c2f0db1b421fae9e065ba", func := "loop.example/g01157/laws.FnExactValidLab", spec := "fnExactValidLab", unfollowed := true, recurses := true, apart := false, narrowed := true }
def FnExactValidLabUptoSaid : Prop := fnExactValidLabUptoRow.holds Try.pinned (OpenSpec.upto fnExactValidLabSpec)

/-- 'laws.FnExactNewTraining', WHERE WHAT IT READS IS OF BULK AT MOST 1048576: true; the input reads as it did. -/
def fnExactNewTrainingUptoRow : OpenClaim := { program := "ytbdcjhhphkckcaa", sum := "8359b109d31dadfa50f7b91409b93d404f3ae389492c2f0db1b421fae9e065ba", func := "loop.example/g01157/laws.FnExactNewTraining", spec := "fnExactNewTraining", unfollowed := true, recurses := true, apart := false, narrowed := true }
def FnExactNewTrainingUptoSaid : Prop := fnExactNewTrainingUptoRow.holds Try.pinned (OpenSpec.upto fnExactNewTrainingSpec)

/-- 'laws.FnExactNewLab', WHERE WHAT IT READS IS OF BULK AT MOST 1048576: true; the input reads as it did. -/
def fnExactNewLabUptoRow : OpenClaim := { program := "ytbdcjhhphkckcaa", sum := "8359b109d31dadfa50f7b91409b93d404f3ae389492c2f0db1b421fae9e065ba", func := "loop.example/g01157/laws.FnExactNewLab", spec := "fnExactNewLab", unfollowed := true, recurses := true, apart := false, narrowed := true }
def FnExactNewLabUptoSaid : Prop := fnExactNewLabUptoRow.holds Try.pinned (OpenSpec.upto fnExactNewLabSpec)

/-- 'laws.FnExactPickRows', WHERE WHAT IT READS IS OF BULK AT MOST 1048576: true; the input reads as it did. -/
def fnExactPickRowsUptoRow : OpenClaim := { program := "ytbdcjhhphkckcaa", sum := "8359b109d31dadfa50f7b91409b93d404f3ae389492c2f0db1b421fae9e065ba", func := "loop.example/g01157/laws.FnExactPickRows", spec := "fnExactPickRows", unfollowed := true, recurses := true, apart := false, narrowed := true }
def FnExactPickRowsUptoSaid : Prop := fnExactPickRowsUptoRow.holds Try.pinned (OpenSpec.upto fnExactPickRowsSpec)

/-- 'laws.FnExactReduceLists', WHERE WHAT IT READS IS OF BULK AT MOST 1048576: true; the input reads as it did. -/
def fnExactReduceListsUptoRow : OpenClaim := { program := "ytbdcjhhphkckcaa", sum := "8359b109d31dadfa50f7b91409b93d404f3ae389492c2f0db1b421fae9e065ba", func := "loop.example/g01157/laws.FnExactReduceLists", spec := "fnExactReduceLists", unfollowed := true, recurses := true, apart := false, narrowed := true }
def FnExactReduceListsUptoSaid : Prop := fnExactReduceListsUptoRow.holds Try.pinned (OpenSpec.upto fnExactReduceListsSpec)

/-- 'laws.FnExactCompileModel', WHERE WHAT IT READS IS OF BULK AT MOST 1048576: true; the input reads as it did. -/
def fnExactCompileModelUptoRow : OpenClaim := { program := "ytbdcjhhphkckcaa", sum := "8359b109d31dadfa50f7b91409b93d404f3ae389492c2f0db1b421fae9e065ba", func := "loop.example/g01157/laws.FnExactCompileModel", spec := "fnExactCompileModel", unfollowed := true, recurses := true, apart := false, narrowed := true }
def FnExactCompileModelUptoSaid : Prop := fnExactCompileModelUptoRow.holds Try.pinned (OpenSpec.upto fnExactCompileModelSpec)

/-- 'laws.FnExactIsWhole', WHERE WHAT IT READS IS OF BULK AT MOST 1048576: true; the input reads as it did. -/
def fnExactIsWholeUptoRow : OpenClaim := { program := "ytbdcjhhphkckcaa", sum := "8359b109d31dadfa50f7b91409b93d404f3ae389492c2f0db1b421fae9e065ba", func := "loop.example/g01157/laws.FnExactIsWhole", spec := "fnExactIsWhole", inPlace := ["math.Float64bits", "math.Float64frombits", "math.archTrunc"], unfollowed := true, recurses := true, apart := false, narrowed := true }
def FnExactIsWholeUptoSaid : Prop := fnExactIsWholeUptoRow.holds Try.pinned (OpenSpec.upto fnExactIsWholeSpec)

end Rows
end Go.Proofs.Ytbdcjhhphkckcaa
