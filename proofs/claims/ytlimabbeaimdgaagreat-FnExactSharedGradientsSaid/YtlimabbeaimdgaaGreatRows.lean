/-
  No cell of these rows narrows 'for every input' (looked for: loops, veiled, ifaces, maps, wideKeys, modest, calm, conditions, laid).
  DERIVED. THE GIVEN ROWS OF THIS SEAT. 3 by the template 'for every input the law returns true; each argument reads behind the call as it read before'; 0 by the template 'total and deterministic' (their statements: YtlimabbeaimdgaaGreatTotals.lean).
  GIVEN WITH THE SEED: the statements are not yours to turn. If you find one false, say at which input.
  Laid BY PROGRAM, IN A SANDBOX (cutbox-rows.mjs): the forced cells as the released guide's own fill.sh prints them over the translation 241afd24b67046f8… (all of the seat's roots in one cut). By AI agents, Wed Nov 11 2026. No macro, syntax, notation, axiom, sorry.
-/
import Derived.Test.YtlimabbeaimdgaaGreatChecked
import GoSem.Claim
import GoSem.ClaimJoined
import GoSem.ClaimMapViews
import Derived.JoinedTies
import Derived.KernelRfl
namespace Go.Proofs.YtlimabbeaimdgaaGreat
/- THE CELL 'sum', in the pinned program and in every row, IS THE sha256 OF THE DUMP (.gsa) THAT YtlimabbeaimdgaaGreatProg.lean LOADS. Nothing in Lean hashes anything: it is a label: what it is worth is what the hold of that sum in a sandbox is worth. -/
noncomputable def Tryz.pinned : Pinned := { name := "ytlimabbeaimdgaagreat", sum := "241afd24b67046f868a91b7300d882c8a8ff68059243eadd86505453c91f6073", checked := Tryz.checked }
namespace Rows
def none {H : Type} : Left H := { results := [], args := [] }

/-- 'laws.FnExactWorkerGradients': WHATEVER THE INPUT: true; the input reads as it did. -/
def fnExactWorkerGradientsSpec : ChangeSpec := { name := "fnExactWorkerGradients", fn := fun _ => fun
  | [d1, d2, d3, d4] => { results := [.lit (.bool true)], args := [d1, d2, d3, d4] }
  | _ => none }
def fnExactWorkerGradientsRow : OpenClaim := { program := "ytlimabbeaimdgaagreat", sum := "241afd24b67046f868a91b7300d882c8a8ff68059243eadd86505453c91f6073", func := "loop.example/g01157/laws.FnExactWorkerGradients", spec := "fnExactWorkerGradients", unfollowed := true, recurses := true, apart := false }
def FnExactWorkerGradientsSaid : Prop := fnExactWorkerGradientsRow.holds Tryz.pinned (OpenSpec.ofChange fnExactWorkerGradientsSpec)

/-- ITS FALSE NEIGHBOUR: 'it returns false'. Refute it at one input. -/
def fnExactWorkerGradientsWrong : ChangeSpec := { name := "fnExactWorkerGradients", fn := fun _ => fun
  | [d1, d2, d3, d4] => { results := [.lit (.bool false)], args := [d1, d2, d3, d4] }
  | _ => none }
def FnExactWorkerGradientsWrongFalsely : Prop := fnExactWorkerGradientsRow.holds Tryz.pinned (OpenSpec.ofChange fnExactWorkerGradientsWrong)

/-- 'laws.FnExactSharedGradients': WHATEVER THE INPUT: true; the input reads as it did. -/
def fnExactSharedGradientsSpec : ChangeSpec := { name := "fnExactSharedGradients", fn := fun _ => fun
  | [d1, d2, d3, d4, d5] => { results := [.lit (.bool true)], args := [d1, d2, d3, d4, d5] }
  | _ => none }
def fnExactSharedGradientsRow : OpenClaim := { program := "ytlimabbeaimdgaagreat", sum := "241afd24b67046f868a91b7300d882c8a8ff68059243eadd86505453c91f6073", func := "loop.example/g01157/laws.FnExactSharedGradients", spec := "fnExactSharedGradients", unfollowed := true, recurses := true, apart := false }
def FnExactSharedGradientsSaid : Prop := fnExactSharedGradientsRow.holds Tryz.pinned (OpenSpec.ofChange fnExactSharedGradientsSpec)

/-- ITS FALSE NEIGHBOUR: 'it returns false'. Refute it at one input. -/
def fnExactSharedGradientsWrong : ChangeSpec := { name := "fnExactSharedGradients", fn := fun _ => fun
  | [d1, d2, d3, d4, d5] => { results := [.lit (.bool false)], args := [d1, d2, d3, d4, d5] }
  | _ => none }
def FnExactSharedGradientsWrongFalsely : Prop := fnExactSharedGradientsRow.holds Tryz.pinned (OpenSpec.ofChange fnExactSharedGradientsWrong)

/-- 'laws.FnExactEvaluateModel': WHATEVER THE INPUT: true; the input reads as it did. -/
def fnExactEvaluateModelSpec : ChangeSpec := { name := "fnExactEvaluateModel", fn := fun _ => fun
  | [d1, d2] => { results := [.lit (.bool true)], args := [d1, d2] }
  | _ => none }
def fnExactEvaluateModelRow : OpenClaim := { program := "ytlimabbeaimdgaagreat", sum := "241afd24b67046f868a91b7300d882c8a8ff68059243eadd86505453c91f6073", func := "loop.example/g01157/laws.FnExactEvaluateModel", spec := "fnExactEvaluateModel", unfollowed := true, recurses := true, apart := false }
def FnExactEvaluateModelSaid : Prop := fnExactEvaluateModelRow.holds Tryz.pinned (OpenSpec.ofChange fnExactEvaluateModelSpec)

/-- ITS FALSE NEIGHBOUR: 'it returns false'. Refute it at one input. -/
def fnExactEvaluateModelWrong : ChangeSpec := { name := "fnExactEvaluateModel", fn := fun _ => fun
  | [d1, d2] => { results := [.lit (.bool false)], args := [d1, d2] }
  | _ => none }
def FnExactEvaluateModelWrongFalsely : Prop := fnExactEvaluateModelRow.holds Tryz.pinned (OpenSpec.ofChange fnExactEvaluateModelWrong)

/- THE SECOND FORM. 'bulk': how many values and letters a reading holds, each counted each time it is reached (what is shared counts as often as it is met; a slice's spare places count too). A statement '..UptoSaid' is the law's where the arguments, and the package variables that the reading takes, are together of bulk at most 1048576: NARROWER than '..Said'. Prove '..Said' where nothing that the law and all that it calls make is longer than what came in: it says more and counts as full. Else prove '..UptoSaid'. A law counts once. -/
mutual
def uptoBulk {H : Type} : DataW H → Nat
  | .lit (.string bytes) => bytes.length + 1
  | .lit _ => 1
  | .nil => 1
  | .ptr d => uptoBulk d + 1
  | .slice elems spare => uptoBulkAll elems + uptoBulkAll spare + 1
  | .agg parts => uptoBulkAll parts + 1
  | .iface _ d => uptoBulk d + 1
  | .map entries => uptoBulkEntries entries + 1
  | .held _ => 1
def uptoBulkAll {H : Type} : List (DataW H) → Nat
  | [] => 0
  | d :: r => uptoBulk d + uptoBulkAll r
def uptoBulkEntries {H : Type} : List (Lit × DataW H) → Nat
  | [] => 0
  | x :: r => uptoBulkEntry x + uptoBulkEntries r
def uptoBulkEntry {H : Type} : Lit × DataW H → Nat
  | (.string bytes, d) => bytes.length + uptoBulk d + 1
  | (_, d) => uptoBulk d + 1
 end
def uptoSmall : (H : Type) → List (DataW H) → Bool := fun _ ds => decide (uptoBulkAll ds ≤ 1048576)
def OpenSpec.upto (s : _root_.Go.ChangeSpec) : _root_.Go.OpenSpec := { _root_.Go.OpenSpec.ofChange s with cond := some uptoSmall }

/-- 'laws.FnExactWorkerGradients', WHERE WHAT IT READS IS OF BULK AT MOST 1048576: true; the input reads as it did. -/
def fnExactWorkerGradientsUptoRow : OpenClaim := { program := "ytlimabbeaimdgaagreat", sum := "241afd24b67046f868a91b7300d882c8a8ff68059243eadd86505453c91f6073", func := "loop.example/g01157/laws.FnExactWorkerGradients", spec := "fnExactWorkerGradients", unfollowed := true, recurses := true, apart := false, narrowed := true }
def FnExactWorkerGradientsUptoSaid : Prop := fnExactWorkerGradientsUptoRow.holds Tryz.pinned (OpenSpec.upto fnExactWorkerGradientsSpec)

/-- 'laws.FnExactSharedGradients', WHERE WHAT IT READS IS OF BULK AT MOST 1048576: true; the input reads as it did. -/
def fnExactSharedGradientsUptoRow : OpenClaim := { program := "ytlimabbeaimdgaagreat", sum := "241afd24b67046f868a91b7300d882c8a8ff68059243eadd86505453c91f6073", func := "loop.example/g01157/laws.FnExactSharedGradients", spec := "fnExactSharedGradients", unfollowed := true, recurses := true, apart := false, narrowed := true }
def FnExactSharedGradientsUptoSaid : Prop := fnExactSharedGradientsUptoRow.holds Tryz.pinned (OpenSpec.upto fnExactSharedGradientsSpec)

/-- 'laws.FnExactEvaluateModel', WHERE WHAT IT READS IS OF BULK AT MOST 1048576: true; the input reads as it did. -/
def fnExactEvaluateModelUptoRow : OpenClaim := { program := "ytlimabbeaimdgaagreat", sum := "241afd24b67046f868a91b7300d882c8a8ff68059243eadd86505453c91f6073", func := "loop.example/g01157/laws.FnExactEvaluateModel", spec := "fnExactEvaluateModel", unfollowed := true, recurses := true, apart := false, narrowed := true }
def FnExactEvaluateModelUptoSaid : Prop := fnExactEvaluateModelUptoRow.holds Tryz.pinned (OpenSpec.upto fnExactEvaluateModelSpec)

end Rows
end Go.Proofs.YtlimabbeaimdgaaGreat
