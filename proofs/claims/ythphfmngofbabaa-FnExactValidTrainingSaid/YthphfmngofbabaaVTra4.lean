/- ValidTraining of the program and of the reference, as the law asks for them. -/
import Derived.Test.YthphfmngofbabaaVTra3
namespace Go.Proofs.Ythphfmngofbabaa.lValidTraining
set_option linter.unusedSimpArgs false
set_option linter.unusedVariables false
open Go.RowKit

theorem opt_cells {w : World} {cs : List Value} {d : shOptimizer.T} (h : Rep w shOptimizer cs d) : ∃ f1 f2 f3 f4, cs = [.int .i64 d.1, .float .f32 f1, .float .f32 f2, .float .f32 f3, .float .f32 f4] := by
  obtain ⟨a1, a2, a3, a4, a5, u⟩ := d
  obtain ⟨_, _, rfl, rfl, _, _, rfl, ⟨f1, rfl, _⟩, _, _, rfl, ⟨f2, rfl, _⟩, _, _, rfl, ⟨f3, rfl, _⟩, _, _, rfl, ⟨f4, rfl, _⟩, rfl⟩ := h
  exact ⟨f1, f2, f3, f4, rfl⟩
def res (o : shOptimizer.T) (d : shTrainState.T) : Bool := vtB o.1 d.1.1 d.2.1 d.2.2.1 d.2.2.2.1
theorem impl_ok (cs0 : List Value) (D0 : shOptimizer.T) (cs1 : List Value) (D1 : shTrainState.T) (w : World) (h0 : Rep w shOptimizer cs0 D0) (h1 : Rep w shTrainState cs1 D1) (f0 : Fit shOptimizer D0) (f1 : Fit shTrainState D1) : Calls Try.prog 41 #[ofCs shOptimizer cs0, ofCs shTrainState cs1] w (RetB w (res D0 D1)) := by
  obtain ⟨g1, g2, g3, g4, rfl⟩ := opt_cells h0
  obtain ⟨u1, u2, ub, rfl, p1, p2, p3, p4, p5, p6⟩ := tra_cells h1 f1
  obtain ⟨pa, ca, css, rfl, L1⟩ := lays_of p1 p3
  obtain ⟨pb, cb, us, rfl, S1⟩ := slts_of p2 p4
  rw [ofCs_agg rfl, ofCs_agg rfl]
  exact ValidTraining_any _ _ _ _ _ _ _ _ _ _ _ _ _ _ css us _ _ w L1 S1
set_option maxRecDepth 100000 in
set_option maxHeartbeats 1000000 in
theorem spec_ok (cs0 : List Value) (D0 : shOptimizer.T) (cs1 : List Value) (D1 : shTrainState.T) (w : World) (h0 : Rep w shOptimizer cs0 D0) (h1 : Rep w shTrainState cs1 D1) (f0 : Fit shOptimizer D0) (f1 : Fit shTrainState D1) : Calls Try.prog 39 #[ofCs shOptimizer cs0, ofCs shTrainState cs1] w (RetB w (res D0 D1)) := by
  obtain ⟨t1, t2, t3, t4, rfl⟩ := opt_cells h0
  obtain ⟨u1, u2, ub, rfl, p1, p2, p3, p4, p5, p6⟩ := tra_cells h1 f1
  obtain ⟨pa, ca, css, rfl, L1⟩ := lays_of p1 p3
  obtain ⟨pb, cb, us, rfl, S1⟩ := slts_of p2 p4
  rw [ofCs_agg rfl, ofCs_agg rfl]
  have C := hid (fun W (h : Ext w W) (bo b1 : Nat) go g0 g1 g2 g3 => l07Is_any bo b1 D0.1 pa pb _ ca _ cb D1.2.2.1 D1.2.2.2.1 css us D1.1.1 D1.2.1 W (L1.ext h) (S1.ext h) go g0 g1 g2 g3)
  unfold res
  clear L1 S1 h0 h1 f0 f1 p1 p2 p3 p4 p5 p6
  generalize vtB D0.1 D1.1.1 D1.2.1 D1.2.2.1 D1.2.2.2.1 = b at *
  go_enter Try.func39, Try.ntmps39
  go_wp2_with fail
  refine (C.out _ ((Ext.alloc _ _).trans (Ext.alloc _ _)) _ _ (by simp) (by simp) (by simp) (by simp) (by simp)).mono ?_
  rintro e w1 ⟨rfl, e1⟩
  go_wp2
  go_ret
  exact ⟨rfl, ((Ext.alloc _ _).trans (Ext.alloc _ _)).trans e1⟩
end Go.Proofs.Ythphfmngofbabaa.lValidTraining
