/- ValidLab of the program and of the reference. -/
import Derived.Test.YtbdcjhhphkckcaaVTra4
import Derived.Test.YtbdcjhhphkckcaaKc
import Derived.Test.YtbdcjhhphkckcaaHLab
namespace Go.Proofs.Ytbdcjhhphkckcaa.lValidLab
set_option linter.unusedSimpArgs false
set_option linter.unusedVariables false
open Go.RowKit

/-- The cells of a lab. -/
theorem lab_cells {w : World} {cs : List Value} {D : shLab.T} (h : Rep w shLab cs D) (hf : Fit shLab D) : ∃ (g1 g2 g3 g4 : Nat) (p1 : Option Addr) (q1 : Nat) (p2 : Option Addr) (q2 : Nat) (pa : Option Addr) (ca : Nat) (pb : Option Addr) (cb ub : Nat) (css : List (List Value)) (us : List Value),
    cs = [.int .i64 D.1.1, .float .f32 g1, .float .f32 g2, .float .f32 g3, .float .f32 g4, .int .i64 D.2.1.1.1, .int .i64 D.2.1.1.2.1, .slice p1 D.2.1.1.2.2.1.length q1, .int .i64 D.2.1.2.1.1, .int .i64 D.2.1.2.1.2.1, .slice p2 D.2.1.2.1.2.2.1.length q2, .slice pa D.2.2.1.1.1.length ca, .slice pb D.2.2.1.2.1.length cb, .int .i64 D.2.2.1.2.2.1, .int .i64 D.2.2.1.2.2.2.1, .float .f32 ub] ∧
    D.2.1.1.2.2.1.length ≤ maxLen ∧ D.2.1.2.1.2.2.1.length ≤ maxLen ∧ Lays w pa D.2.2.1.1.1.length css D.2.2.1.1.1 ∧ Slts w pb D.2.2.1.2.1.length us D.2.2.1.2.1 := by
  obtain ⟨o, ⟨⟨a1_1, a1_2, a1_3, a1_u⟩, ⟨a2_1, a2_2, a2_3, a2_u⟩, au⟩, t, u⟩ := D
  obtain ⟨co, cr, rfl, ho, ce, cr2, rfl, he, ct, cr3, rfl, ht, rfl⟩ := h
  obtain ⟨_, _, rfl, ⟨_, _, rfl, rfl, _, _, rfl, rfl, _, _, rfl, ha1_3, rfl⟩, _, _, rfl, ⟨_, _, rfl, rfl, _, _, rfl, rfl, _, _, rfl, ha2_3, rfl⟩, rfl⟩ := he
  obtain ⟨pa1_3, ca1_3, rfl, hla1_3⟩ := rep_val ha1_3
  obtain ⟨pa2_3, ca2_3, rfl, hla2_3⟩ := rep_val ha2_3
  obtain ⟨g1, g2, g3, g4, rfl⟩ := lValidTraining.opt_cells ho
  obtain ⟨u1, u2, ub, rfl, p1, p2, p3, p4, p5, p6⟩ := tra_cells ht hf.2.2.1
  obtain ⟨pa, ca, css, rfl, L1⟩ := lays_of p1 p3
  obtain ⟨pb, cb, us, rfl, S1⟩ := slts_of p2 p4
  exact ⟨g1, g2, g3, g4, pa1_3, ca1_3, pa2_3, ca2_3, pa, ca, pb, cb, ub, css, us, rfl, hla1_3, hla2_3, L1, S1⟩

def res (D : shLab.T) : Bool := exaB D.2.1.1.1 D.2.1.1.2.1 D.2.1.1.2.2.1.length D.2.1.2.1.1 D.2.1.2.1.2.1 D.2.1.2.1.2.2.1.length && vtB D.1.1 D.2.2.1.1.1 D.2.2.1.2.1 D.2.2.1.2.2.1 D.2.2.1.2.2.2.1
set_option maxRecDepth 100000 in
set_option maxHeartbeats 1000000 in
theorem impl_ok (cs0 : List Value) (D0 : shLab.T) (w : World) (h0 : Rep w shLab cs0 D0) (f0 : Fit shLab D0) : Calls Try.prog 13 #[ofCs shLab cs0] w (RetB w (res D0)) := by
  obtain ⟨g1, g2, g3, g4, p1, q1, p2, q2, pa, ca, pb, cb, ub, css, us, rfl, b1, b2, L1, S1⟩ := lab_cells h0 f0
  rw [ofCs_agg rfl]
  have C1 := hid (fun W (h : Ext w W) => ValidExamples_any D0.2.1.1.1 D0.2.1.1.2.1 p1 _ q1 D0.2.1.2.1.1 D0.2.1.2.1.2.1 p2 _ q2 W b1 b2)
  have C2 := hid (fun W (h : Ext w W) => ValidTraining_any D0.1.1 g1 g2 g3 g4 pa pb _ ca _ cb D0.2.2.1.2.2.1 D0.2.2.1.2.2.2.1 ub css us _ _ W (L1.ext h) (S1.ext h))
  unfold res
  clear L1 S1 h0 f0 b1 b2
  generalize exaB D0.2.1.1.1 D0.2.1.1.2.1 D0.2.1.1.2.2.1.length D0.2.1.2.1.1 D0.2.1.2.1.2.1 D0.2.1.2.1.2.2.1.length = b at *
  generalize vtB D0.1.1 D0.2.2.1.1.1 D0.2.2.1.2.1 D0.2.2.1.2.2.1 D0.2.2.1.2.2.2.1 = b' at *
  cases b <;> cases b'
  all_goals
    go_enter Try.func13, Try.ntmps13
    go_wp2_with (first | (go_at_call 61; refine (C1.out _ (Ext.alloc _ _)).mono ?_; rintro e w1 ⟨rfl, e1⟩; have x0 := e1.cellOf (b := w.heap.size) (by simp); replace e1 := (Ext.alloc _ _).trans e1) | (go_at_call 62; refine (C2.out _ e1).mono ?_; rintro e w2 ⟨rfl, e2⟩; replace e1 := e1.trans e2))
    go_ret
    exact ⟨rfl, e1⟩
set_option maxRecDepth 100000 in
set_option maxHeartbeats 1000000 in
theorem l11Is_any (bl : Nat) (b b' : Bool) (w : World) (C1 : ∀ W, Ext w W → Calls Try.prog 84 #[.pointer (some ⟨bl, 5, none⟩)] W (RetB W b)) (C2 : ∀ W, Ext w W → Calls Try.prog 70 #[.pointer (some ⟨bl, 0, none⟩), .pointer (some ⟨bl, 11, none⟩)] W (RetB W b')) :
    Calls Try.prog 59 #[.pointer (some ⟨bl, 0, none⟩)] w (RetB w (b && b')) := by
  have K1 := hid (fun W (h : Ext w.drew W) => calls_retB (C1 W ((Ext.drew w).trans h)))
  have K2 := hid (fun W (h : Ext w.drew W) => calls_retB (C2 W ((Ext.drew w).trans h)))
  clear C1 C2
  obtain ⟨F, hF⟩ : ∃ F : Option Tmp → World → Value → Prop, F = fun d _ u => u = .bool (match d with | some 6 => b | _ => b') := ⟨_, rfl⟩
  have HF := hid hF
  clear hF
  cases b <;> cases b'
  all_goals
    go_enter Try.func59, Try.ntmps59
    go_wp2
    refine wp_region_xall (F := F) (by kernel_rfl) (by kernel_rfl) (by kernel_rfl) ?_
    intro wf hwf
    repeat (first
      | (refine x_skip rfl ?_; simp only [Act.put, ev_tmp, List.setIfInBounds_toArray, List.set_cons_succ, List.set_cons_zero, List.getD_cons_succ, List.getD_cons_zero])
      | (refine x_mv rfl rfl rfl ?_; simp only [Act.put, ev_tmp, List.setIfInBounds_toArray, List.set_cons_succ, List.set_cons_zero, List.getD_cons_succ, List.getD_cons_zero])
      | (refine x_as rfl rfl rfl ?_; simp only [Act.put, ev_tmp, List.setIfInBounds_toArray, List.set_cons_succ, List.set_cons_zero, List.getD_cons_succ, List.getD_cons_zero])
      | ((with_reducible show wpX _ _ _ _ _ _ (Oper.mk _ (Op.call _) _ _ _ _ :: _) _); refine x_callf (f := 84) (args := #[.pointer (some ⟨bl, 5, none⟩)]) rfl rfl Try.func84 rfl (by kernel_rfl) ?_ ?_ ?_; (focus (simp [Act.eval]; done)); (focus (intro w1 hw1; exact (by rw [HF.out]; exact K1.out w1 hw1))); rintro u w3 e3 e4 hu; simp only [HF.out] at hu; subst hu; simp only [Act.put, ev_tmp, List.setIfInBounds_toArray, List.set_cons_succ, List.set_cons_zero, List.getD_cons_succ, List.getD_cons_zero])
      | ((with_reducible show wpX _ _ _ _ _ _ (Oper.mk _ (Op.call _) _ _ _ _ :: _) _); refine x_callf (f := 70) (args := #[.pointer (some ⟨bl, 0, none⟩), .pointer (some ⟨bl, 11, none⟩)]) rfl rfl Try.func70 rfl (by kernel_rfl) ?_ ?_ ?_; (focus (simp [Act.eval]; done)); (focus (intro w1 hw1; exact (by rw [HF.out]; exact K2.out w1 hw1))); rintro u w3 e3 e4 hu; simp only [HF.out] at hu; subst hu; simp only [Act.put, ev_tmp, List.setIfInBounds_toArray, List.set_cons_succ, List.set_cons_zero, List.getD_cons_succ, List.getD_cons_zero])
      | (refine x_run rfl fun K hK w1 hw1 => ?_; go_simp; refine hK _ ?_; clear hK K  hw1 w1))
    refine x_nil ?_
    go_wp2
    go_ret
    exact ⟨rfl, (Ext.drew w).trans hwf⟩
set_option maxRecDepth 100000 in
set_option maxHeartbeats 1000000 in
theorem spec_ok (cs0 : List Value) (D0 : shLab.T) (w : World) (h0 : Rep w shLab cs0 D0) (f0 : Fit shLab D0) : Calls Try.prog 11 #[ofCs shLab cs0] w (RetB w (res D0)) := by
  obtain ⟨g1, g2, g3, g4, p1, q1, p2, q2, pa, ca, pb, cb, ub, css, us, rfl, b1, b2, L1, S1⟩ := lab_cells h0 f0
  rw [ofCs_agg rfl]
  have C1 := hid (fun W (bl o : Nat) k0 k1 k2 k3 k4 k5 => l07Data_any bl o D0.2.1.1.1 D0.2.1.1.2.1 p1 _ q1 D0.2.1.2.1.1 D0.2.1.2.1.2.1 p2 _ q2 W k0 k1 k2 k3 k4 k5 b1 b2)
  have C2 := hid (fun W (h : Ext w W) (bo oo bl o : Nat) go k0 k1 k2 k3 => l07IsO_any bo oo bl o D0.1.1 pa pb _ ca _ cb D0.2.2.1.2.2.1 D0.2.2.1.2.2.2.1 css us _ _ W (L1.ext h) (S1.ext h) go k0 k1 k2 k3)
  unfold res
  clear L1 S1 h0 f0 b1 b2
  generalize exaB D0.2.1.1.1 D0.2.1.1.2.1 D0.2.1.1.2.2.1.length D0.2.1.2.1.1 D0.2.1.2.1.2.1 D0.2.1.2.1.2.2.1.length = b at *
  generalize vtB D0.1.1 D0.2.2.1.1.1 D0.2.2.1.2.1 D0.2.2.1.2.2.1 D0.2.2.1.2.2.2.1 = b' at *
  go_enter Try.func11, Try.ntmps11
  go_wp2_with fail
  refine (l11Is_any _ b b' _ (fun W hW => C1.out W _ _ (hW.cell (by simp)) (hW.cell (by simp)) (hW.cell (by simp)) (hW.cell (by simp)) (hW.cell (by simp)) (hW.cell (by simp))) (fun W hW => C2.out W ((Ext.alloc _ _).trans hW) _ _ _ _ (hW.cell (by simp)) (hW.cell (by simp)) (hW.cell (by simp)) (hW.cell (by simp)) (hW.cell (by simp)))).mono ?_
  rintro e w1 ⟨rfl, e1⟩
  go_wp2
  go_ret
  exact ⟨rfl, (Ext.alloc _ _).trans e1⟩
end Go.Proofs.Ytbdcjhhphkckcaa.lValidLab
