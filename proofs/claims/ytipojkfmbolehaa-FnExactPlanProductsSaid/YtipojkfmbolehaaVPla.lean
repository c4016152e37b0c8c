/- ValidPlan of the program and of the reference. -/
import Derived.Test.YtipojkfmbolehaaPla4
namespace Go.Proofs.Ytipojkfmbolehaa
set_option linter.unusedSimpArgs false
set_option linter.unusedVariables false
open Go.RowKit
/-- A plan, opened. -/
theorem pla_open {w : World} {cs : List Value} {D : shPlan.T} (h : Rep w shPlan cs D) : ∃ p c css, cs = [.slice p D.1.length c] ∧ Cs w p (List.flatten css) ∧ D.1.length ≤ maxLen ∧ All2 (Rep w shPlanStep) css D.1 ∧ (∀ c ∈ css, c.length = shPlanStep.sz) ∧ css.length = D.1.length := by
  obtain ⟨l, u⟩ := D
  obtain ⟨_, _, rfl, h1, rfl⟩ := h
  obtain ⟨p, c, css, rfl, a2, a3, a4, a5, a6, a7⟩ := rep_sl h1
  exact ⟨p, c, css, rfl, a2, Nat.le_trans a3 a4, a5, a6, a7⟩
end Go.Proofs.Ytipojkfmbolehaa
namespace Go.Proofs.Ytipojkfmbolehaa.lValidPlan
open Go.RowKit
def res (D : shPlan.T) : Bool := plaB D.1
theorem spec_ok (cs0 : List Value) (D0 : shPlan.T) (w : World) (h0 : Rep w shPlan cs0 D0) : Calls Try.prog 62 #[ofCs shPlan cs0] w (RetB w (res D0)) := by
  obtain ⟨p, c, css, rfl, a2, a4, a5, a6, a7⟩ := pla_open h0
  exact specValidPlan_any p _ c D0.1 css w rfl a4 a2 a5 a6 a7
theorem impl_ok (cs0 : List Value) (D0 : shPlan.T) (w : World) (h0 : Rep w shPlan cs0 D0) : Calls Try.prog 64 #[ofCs shPlan cs0] w (RetB w (res D0)) := by
  obtain ⟨p, c, css, rfl, a2, a4, a5, a6, a7⟩ := pla_open h0
  exact ValidPlan_any p _ c D0.1 css w rfl a4 a2 a5 a6 a7
end Go.Proofs.Ytipojkfmbolehaa.lValidPlan
