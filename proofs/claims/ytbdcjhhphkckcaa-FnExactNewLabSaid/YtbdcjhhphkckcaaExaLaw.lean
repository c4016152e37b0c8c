/- The law FnExactValidExamples answers true at every input. -/
import Derived.Test.YtbdcjhhphkckcaaKc
import Derived.Test.YtbdcjhhphkckcaaKb
namespace Go.Proofs.Ytbdcjhhphkckcaa.lExa
set_option linter.unusedSimpArgs false
set_option linter.unusedVariables false
open Go.RowKit

def exa (D : shExamples.T) : Bool := exaB D.1.1 D.1.2.1 D.1.2.2.1.length D.2.1.1 D.2.1.2.1 D.2.1.2.2.1.length
theorem impl_ok (cs : List Value) (D : shExamples.T) (w : World) (h : Rep w shExamples cs D) : Calls Try.prog 61 #[ofCs shExamples cs] w (RetB w (exa D)) := by
  obtain ⟨⟨a1_1, a1_2, a1_3, a1_u⟩, ⟨a2_1, a2_2, a2_3, a2_u⟩, au⟩ := D
  obtain ⟨_, _, rfl, ⟨_, _, rfl, rfl, _, _, rfl, rfl, _, _, rfl, ha1_3, rfl⟩, _, _, rfl, ⟨_, _, rfl, rfl, _, _, rfl, rfl, _, _, rfl, ha2_3, rfl⟩, rfl⟩ := h
  obtain ⟨pa1_3, ca1_3, rfl, hla1_3⟩ := rep_val ha1_3
  obtain ⟨pa2_3, ca2_3, rfl, hla2_3⟩ := rep_val ha2_3
  exact ValidExamples_any _ _ _ _ _ _ _ _ _ _ w hla1_3 hla2_3

end Go.Proofs.Ytbdcjhhphkckcaa.lExa
