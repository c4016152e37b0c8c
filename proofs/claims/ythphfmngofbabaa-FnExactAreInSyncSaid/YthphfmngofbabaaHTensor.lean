/- The harness on structs: Tensor. -/
import Derived.Test.YthphfmngofbabaaPlain
import Derived.Test.YthphfmngofbabaaElem
namespace Go.Proofs.Ythphfmngofbabaa
set_option linter.unusedSimpArgs false
set_option linter.unusedVariables false
open Go.RowKit

abbrev shTensor : Sh := .pr .int (.pr .int (.pr (.sl .flt) (.un)))
theorem fo_implTensor_0 (q : Addr) (w : World) : (Instr.fieldAt 88 (.pointer (some q)) 0).run Try.prog w = .ok (.pointer (some (q.add 0))) w := by go_simp
theorem fo_implTensor_1 (q : Addr) (w : World) : (Instr.fieldAt 88 (.pointer (some q)) 1).run Try.prog w = .ok (.pointer (some (q.add 1))) w := by go_simp
theorem fo_implTensor_2 (q : Addr) (w : World) : (Instr.fieldAt 88 (.pointer (some q)) 2).run Try.prog w = .ok (.pointer (some (q.add 2))) w := by go_simp
instance elStTensorimpl : ElTy Try.prog 88 shTensor := ⟨by kernel_rfl, by kernel_rfl⟩
end Go.Proofs.Ythphfmngofbabaa
