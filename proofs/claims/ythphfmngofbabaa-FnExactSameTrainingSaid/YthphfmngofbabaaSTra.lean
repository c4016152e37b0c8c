/- SameTraining of the program and of the reference, as the law asks for them. -/
import Derived.Test.YthphfmngofbabaaSameW
import Derived.Test.YthphfmngofbabaaHTrainState
namespace Go.Proofs.Ythphfmngofbabaa.lSameTraining
set_option linter.unusedSimpArgs false
set_option linter.unusedVariables false
open Go.RowKit

def res (d e : shTrainState.T) : Bool := eqT shTrainState d e
theorem impl_ok (cs0 : List Value) (D0 : shTrainState.T) (cs1 : List Value) (D1 : shTrainState.T) (w : World) (h0 : Rep w shTrainState cs0 D0) (h1 : Rep w shTrainState cs1 D1) (f0 : Fit shTrainState D0) (f1 : Fit shTrainState D1) :
    Calls Try.prog 16 #[ofCs shTrainState cs0, ofCs shTrainState cs1] w (RetB w (res D0 D1)) := SameTraining_any D0 D1 cs0 cs1 w h0 h1 f0 f1
set_option maxRecDepth 100000 in
set_option maxHeartbeats 1000000 in
theorem spec_ok (cs0 : List Value) (D0 : shTrainState.T) (cs1 : List Value) (D1 : shTrainState.T) (w : World) (h0 : Rep w shTrainState cs0 D0) (h1 : Rep w shTrainState cs1 D1) (f0 : Fit shTrainState D0) (f1 : Fit shTrainState D1) :
    Calls Try.prog 14 #[ofCs shTrainState cs0, ofCs shTrainState cs1] w (RetB w (res D0 D1)) := by
  have hR : res D0 D1 = sameR D0 D1 := (sameR_eq D0 D1).symm
  rw [hR]
  obtain ⟨u1, u2, ub, rfl, p1, p2, p3, p4, p5, p6⟩ := tra_cells h0 f0
  obtain ⟨v1, v2, vb, rfl, q1, q2, q3, q4, q5, q6⟩ := tra_cells h1 f1
  obtain ⟨pa, ca, css, rfl, L1⟩ := lays_of p1 p3
  obtain ⟨qa, da, dss, rfl, L2⟩ := lays_of q1 q3
  obtain ⟨pb, cb, us, rfl, S1⟩ := slts_of p2 p4
  obtain ⟨qb, db, vs, rfl, S2⟩ := slts_of q2 q4
  clear h0 h1 f0 f1 hR p1 p2 p3 p4 q1 q2 q3 q4
  rw [ofCs_agg rfl, ofCs_agg rfl]
  have C0 : ∀ W (h : Ext w W) (b1 b2 : Nat), W.cell? ⟨b1, 0, none⟩ = some (.slice pa (List.length D0.1.1) ca) → W.cell? ⟨b1, 1, none⟩ = some (.slice pb (List.length D0.2.1) cb) → W.cell? ⟨b1, 2, none⟩ = some (.int .i64 D0.2.2.1) → W.cell? ⟨b1, 3, none⟩ = some (.int .i64 D0.2.2.2.1) → W.cell? ⟨b1, 4, none⟩ = some (.float .f32 ub) →
      W.cell? ⟨b2, 0, none⟩ = some (.slice qa (List.length D1.1.1) da) → W.cell? ⟨b2, 1, none⟩ = some (.slice qb (List.length D1.2.1) db) → W.cell? ⟨b2, 2, none⟩ = some (.int .i64 D1.2.2.1) → W.cell? ⟨b2, 3, none⟩ = some (.int .i64 D1.2.2.2.1) → W.cell? ⟨b2, 4, none⟩ = some (.float .f32 vb) →
      Calls Try.prog 62 #[.pointer (some ⟨b1, 0, none⟩), .pointer (some ⟨b2, 0, none⟩)] W (RetB W (sameR D0 D1)) := by
    intro W h b1 b2 g0 g1 g2 g3 g4 k0 k1 k2 k3 k4
    have h := l07Same_any b1 b2 pa qa pb qb _ ca _ da _ cb _ db D0.2.2.1 D0.2.2.2.1 D1.2.2.1 D1.2.2.2.1 ub vb css dss us vs D0.1.1 D1.1.1 D0.2.1 D1.2.1 W g0 g1 g2 g3 g4 k0 k1 k2 k3 k4 (by rw [p5]; exact p6) (by rw [q5]; exact q6) (L1.ext h) (L2.ext h) (S1.ext h) (S2.ext h)
    rw [p5, q5] at h
    exact h
  have C := hid C0
  clear C0 L1 L2 S1 S2 p5 p6 q5 q6
  generalize sameR D0 D1 = b at *
  go_enter Try.func14, Try.ntmps14
  go_wp2_with fail
  refine (C.out _ ((Ext.alloc _ _).trans (Ext.alloc _ _)) _ _ (by simp) (by simp) (by simp) (by simp) (by simp) (by simp) (by simp) (by simp) (by simp) (by simp)).mono ?_
  rintro e w1 ⟨rfl, e1⟩
  go_wp2
  go_ret
  exact ⟨rfl, ((Ext.alloc _ _).trans (Ext.alloc _ _)).trans e1⟩
end Go.Proofs.Ythphfmngofbabaa.lSameTraining
