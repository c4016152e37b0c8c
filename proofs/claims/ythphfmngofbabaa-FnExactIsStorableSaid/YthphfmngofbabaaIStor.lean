/- IsStorable of the program and of the reference, as the law asks for them. -/
import Derived.Test.YthphfmngofbabaaSto2
import Derived.Test.YthphfmngofbabaaHTrainState
import Derived.Test.YthphfmngofbabaaThings
namespace Go.Proofs.Ythphfmngofbabaa.lIsStorable
set_option linter.unusedSimpArgs false
set_option linter.unusedVariables false
open Go.RowKit

def res (d : shTrainState.T) : Bool := stoB d.1.1 d.2.1 d.2.2.1 d.2.2.2.1
theorem impl_ok (cs0 : List Value) (D0 : shTrainState.T) (w : World) (h0 : Rep w shTrainState cs0 D0) (f0 : Fit shTrainState D0) : Calls Try.prog 24 #[ofCs shTrainState cs0] w (RetB w (res D0)) := by
  obtain ⟨u1, u2, ub, rfl, p1, p2, p3, p4, p5, p6⟩ := tra_cells h0 f0
  obtain ⟨pa, ca, css, rfl, L1⟩ := lays_of p1 p3
  obtain ⟨pb, cb, us, rfl, S1⟩ := slts_of p2 p4
  rw [ofCs_agg rfl]
  exact IsStorable_any _ _ _ _ _ _ _ _ _ css us _ _ w L1 S1
set_option maxRecDepth 100000 in
set_option maxHeartbeats 1000000 in
theorem spec_ok (cs0 : List Value) (D0 : shTrainState.T) (w : World) (h0 : Rep w shTrainState cs0 D0) (f0 : Fit shTrainState D0) : Calls Try.prog 23 #[ofCs shTrainState cs0] w (RetB w (res D0)) := by
  obtain ⟨u1, u2, ub, rfl, p1, p2, p3, p4, p5, p6⟩ := tra_cells h0 f0
  obtain ⟨pa, ca, css, rfl, L1⟩ := lays_of p1 p3
  obtain ⟨pb, cb, us, rfl, S1⟩ := slts_of p2 p4
  rw [ofCs_agg rfl]
  have C := hid (fun W (h : Ext w W) (b1 : Nat) g0 g1 g2 g3 => l08Is_any b1 pa pb _ ca _ cb D0.2.2.1 D0.2.2.2.1 css us D0.1.1 D0.2.1 W (L1.ext h) (S1.ext h) g0 g1 g2 g3)
  unfold res
  clear L1 S1 h0 f0 p1 p2 p3 p4 p5 p6
  generalize stoB D0.1.1 D0.2.1 D0.2.2.1 D0.2.2.2.1 = b at *
  go_enter Try.func23, Try.ntmps23
  go_wp2_with fail
  refine (C.out _ (Ext.alloc _ _) _ (by simp) (by simp) (by simp) (by simp)).mono ?_
  rintro e w1 ⟨rfl, e1⟩
  go_wp2
  go_ret
  exact ⟨rfl, (Ext.alloc _ _).trans e1⟩
end Go.Proofs.Ythphfmngofbabaa.lIsStorable
