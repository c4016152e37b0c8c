/- ValidTraining of the program and of the reference, as the law asks for them. -/
import Derived.Test.YtbdcjhhphkckcaaVTra3
namespace Go.Proofs.Ytbdcjhhphkckcaa.lValidTraining
set_option linter.unusedSimpArgs false
set_option linter.unusedVariables false
open Go.RowKit

theorem opt_cells {w : World} {cs : List Value} {d : shOptimizer.T} (h : Rep w shOptimizer cs d) : ∃ f1 f2 f3 f4, cs = [.int .i64 d.1, .float .f32 f1, .float .f32 f2, .float .f32 f3, .float .f32 f4] := by
  obtain ⟨a1, a2, a3, a4, a5, u⟩ := d
  obtain ⟨_, _, rfl, rfl, _, _, rfl, ⟨f1, rfl, _⟩, _, _, rfl, ⟨f2, rfl, _⟩, _, _, rfl, ⟨f3, rfl, _⟩, _, _, rfl, ⟨f4, rfl, _⟩, rfl⟩ := h
  exact ⟨f1, f2, f3, f4, rfl⟩
def res (o : shOptimizer.T) (d : shTrainState.T) : Bool := vtB o.1 d.1.1 d.2.1 d.2.2.1 d.2.2.2.1
theorem impl_ok (cs0 : List Value) (D0 : shOptimizer.T) (cs1 : List Value) (D1 : shTrainState.T) (w : World) (h0 : Rep w shOptimizer cs0 D0) (h1 : Rep w shTrainState cs1 D1) (f0 : Fit shOptimizer D0) (f1 : Fit shTrainState D1) : Calls Try.prog 62 #[ofCs shOptimizer cs0, ofCs shTrainState cs1] w (RetB w (res D0 D1)) := by
  obtain ⟨g1, g2, g3, g4, rfl⟩ := opt_cells h0
  obtain ⟨u1, u2, ub, rfl, p1, p2, p3, p4, p5, p6⟩ := tra_cells h1 f1
  obtain ⟨pa, ca, css, rfl, L1⟩ := lays_of p1 p3
  obtain ⟨pb, cb, us, rfl, S1⟩ := slts_of p2 p4
  rw [ofCs_agg rfl, ofCs_agg rfl]
  exact ValidTraining_any _ _ _ _ _ _ _ _ _ _ _ _ _ _ css us _ _ w L1 S1
end Go.Proofs.Ytbdcjhhphkckcaa.lValidTraining
