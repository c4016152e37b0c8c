/- The law FnExactValidTraining answers true at every input. -/
import Derived.Test.YthphfmngofbabaaVTra4
import Derived.Test.YthphfmngofbabaaThings
namespace Go.Proofs.Ythphfmngofbabaa.lValidTraining
set_option linter.unusedSimpArgs false
set_option linter.unusedVariables false
open Go.RowKit

set_option maxRecDepth 100000 in
set_option maxHeartbeats 1000000 in
theorem law_any (cs0 : List Value) (D0 : Sh.T shOptimizer) (cs1 : List Value) (D1 : Sh.T shTrainState) (w : World) (h0 : Rep w shOptimizer cs0 D0) (h1 : Rep w shTrainState cs1 D1) (f0 : Fit shOptimizer D0) (f1 : Fit shTrainState D1) : Calls Try.prog 9 #[ofCs shOptimizer cs0, ofCs shTrainState cs1] w fun e w' => e = .returned (.bool true) ∧ Ext w w' := by
  have hl0 := hid h0.size
  have ho0 := hid h0.one
  have hl1 := hid h1.size
  have ho1 := hid h1.one
  have e0 := Ext.refl w
  obtain ⟨N0, hN0⟩ : ∃ N0, N0 = w.heap.size := ⟨_, rfl⟩
  have s := Nat.le_of_eq hN0
  have r0 := h0
  have r1 := h1
  go_enter Try.func9, Try.ntmps9
  have hb0 : tot shOptimizer D0 ≤ 1048576 := by simp [tot]
  go_wp2_with (first | ((with_reducible show wpList _ _ _ (Oper.mk _ (Op.box _ _) _ _ _ _ :: _) _ _); refine wl_box (s := shOptimizer) (cs := cs0) rfl rfl rfl hl0.out ho0.out ?_; intro b0 v0 g0 vv0 c0; have mb0 := Nat.le_trans s vv0; replace e0 := e0.trans (g0); replace s := Nat.le_trans s (Ext.size (g0)); replace r0 := h0.ext e0; replace r1 := h1.ext e0; have vl0 := Cs.blkLt c0 (by rw [hl0.out]; decide); obtain ⟨Nb0, hNb0⟩ : ∃ N, N = v0.heap.size := ⟨_, rfl⟩; rw [← hNb0] at vl0; have s := Nat.le_of_eq hNb0) | ((with_reducible show wpList _ _ _ (Oper.mk _ (Op.box _ _) _ _ _ _ :: _) _ _); refine wl_box (s := shTrainState) (cs := cs1) rfl rfl rfl hl1.out ho1.out ?_; intro b1 v1 g1 vv1 c1; have mb1 := Nat.le_trans s vv1; replace e0 := e0.trans (g1); replace s := Nat.le_trans s (Ext.size (g1)); replace r0 := h0.ext e0; replace r1 := h1.ext e0; replace c0 := c0.ext g1; have vl1 := Cs.blkLt c1 (by rw [hl1.out]; decide); obtain ⟨Nb1, hNb1⟩ : ∃ N, N = v1.heap.size := ⟨_, rfl⟩; rw [← hNb1] at vl1; have s := Nat.le_of_eq hNb1) | ((with_reducible show wpList _ _ _ (Oper.mk _ (Op.load _ _) _ _ _ _ :: _) _ _); refine wl_ldA (s := shOptimizer) (cs := cs0) rfl rfl rfl c0 hl0.out ?_) | ((with_reducible show wpList _ _ _ (Oper.mk _ (Op.load _ _) _ _ _ _ :: _) _ _); refine wl_ldA (s := shTrainState) (cs := cs1) rfl rfl rfl c1 hl1.out ?_))
  refine (szTrainState_ok cs1 D1 1048576 _ r1 (by omega) (by omega)).mono ?_
  rintro e w1 ⟨⟨s1, rfl, hs1⟩, e1⟩
  replace e0 := e0.trans (e1)
  replace s := Nat.le_trans s (Ext.size (e1))
  replace c0 := c0.ext (e1)
  replace c1 := c1.ext (e1)
  replace r0 := h0.ext e0
  replace r1 := h1.ext e0
  clear e1
  by_cases hn1 : s1 < 0
  · go_wp2
    go_ret
    exact ⟨rfl, e0⟩
  have hb1 : tot shTrainState D1 ≤ 1048576 := by rcases hs1 with h | h; exact absurd h hn1; omega
  have hz1 : 0 ≤ s1 := by omega
  have ht1 : s1 ≤ 1048576 := by rcases hs1 with h | h; exact absurd h hn1; omega
  clear hs1
  go_wp2_with (first | ((with_reducible show wpList _ _ _ (Oper.mk _ (Op.load _ _) _ _ _ _ :: _) _ _); refine wl_ldA (s := shOptimizer) (cs := cs0) rfl rfl rfl c0 hl0.out ?_) | ((with_reducible show wpList _ _ _ (Oper.mk _ (Op.load _ _) _ _ _ _ :: _) _ _); refine wl_ldA (s := shTrainState) (cs := cs1) rfl rfl rfl c1 hl1.out ?_))
  replace e0 := e0.trans ((Ext.drew _))
  replace s := Nat.le_trans s (Ext.size ((Ext.drew _)))
  replace c0 := c0.ext ((Ext.drew _))
  replace c1 := c1.ext ((Ext.drew _))
  replace r0 := h0.ext e0
  replace r1 := h1.ext e0
  obtain ⟨F2, hF2⟩ : ∃ F : Option Tmp → World → Value → Prop, F = fun d W u => (match d with | some 15 => ∃ cs', u = ofCs shOptimizer cs' ∧ Rep W shOptimizer cs' D0 | some 17 => ∃ cs', u = ofCs shTrainState cs' ∧ Rep W shTrainState cs' D1 | _ => True) := ⟨_, rfl⟩
  have HF2 := hid hF2
  clear hF2
  refine wp_region_xt 4 (F := F2) (by kernel_rfl) (by kernel_rfl) (by kernel_rfl) (by kernel_rfl) (by kernel_rfl) ?_
  intro wf hwf
  simp only [List.take_succ_cons, List.take_zero, List.drop_succ_cons, List.drop_zero]
  first | (refine x_ldA (s := shOptimizer) (cs := cs0) rfl rfl rfl c0 hl0.out ?_) | (refine x_ldA (s := shTrainState) (cs := cs1) rfl rfl rfl c1 hl1.out ?_)
  simp only [Act.put, ev_tmp, List.setIfInBounds_toArray, List.set_cons_succ, List.set_cons_zero, List.getD_cons_succ, List.getD_cons_zero]
  refine x_callf (f := 40) (args := #[ofCs shOptimizer cs0]) rfl rfl Try.func40 rfl (by kernel_rfl) ?_ ?_ ?_; (focus (simp [Act.eval]; done)); (focus (intro w1 hw1; exact ((toOptimizer_ok cs0 D0 w1 (r0.ext hw1) hb0).mono fun e w3 ⟨cs3, bs3, g1, g2, _, _, g3⟩ => ⟨_, g1, g3, by rw [HF2.out]; exact ⟨cs3, rfl, g2.rep⟩⟩))); rintro u w3 e3 e4 hu; simp only [HF2.out] at hu; obtain ⟨cz3, rfl, rz3⟩ := hu; replace rz3 := rz3.ext e4
  simp only [Act.put, ev_tmp, List.setIfInBounds_toArray, List.set_cons_succ, List.set_cons_zero, List.getD_cons_succ, List.getD_cons_zero]
  first | (refine x_ldA (s := shOptimizer) (cs := cs0) rfl rfl rfl c0 hl0.out ?_) | (refine x_ldA (s := shTrainState) (cs := cs1) rfl rfl rfl c1 hl1.out ?_)
  simp only [Act.put, ev_tmp, List.setIfInBounds_toArray, List.set_cons_succ, List.set_cons_zero, List.getD_cons_succ, List.getD_cons_zero]
  refine x_callf (f := 15) (args := #[ofCs shTrainState cs1]) rfl rfl Try.func15 rfl (by kernel_rfl) ?_ ?_ ?_; (focus (simp [Act.eval]; done)); (focus (intro w1 hw1; exact ((toTrainState_ok cs1 D1 w1 (r1.ext hw1) hb1).mono fun e w3 ⟨cs3, bs3, g1, g2, _, _, g3⟩ => ⟨_, g1, g3, by rw [HF2.out]; exact ⟨cs3, rfl, g2.rep⟩⟩))); rintro u w3 e3 e4 hu; simp only [HF2.out] at hu; obtain ⟨cz4, rfl, rz4⟩ := hu; replace rz4 := rz4.ext e4
  simp only [Act.put, ev_tmp, List.setIfInBounds_toArray, List.set_cons_succ, List.set_cons_zero, List.getD_cons_succ, List.getD_cons_zero]
  refine x_nil ?_
  replace e0 := e0.trans (hwf)
  replace s := Nat.le_trans s (Ext.size (hwf))
  replace c0 := c0.ext (hwf)
  replace c1 := c1.ext (hwf)
  replace r0 := h0.ext e0
  replace r1 := h1.ext e0
  clear hwf
  go_wp2_with (first | ((with_reducible show wpList _ _ _ (Oper.mk _ (Op.load _ _) _ _ _ _ :: _) _ _); refine wl_ldA (s := shOptimizer) (cs := cs0) rfl rfl rfl c0 hl0.out ?_) | ((with_reducible show wpList _ _ _ (Oper.mk _ (Op.load _ _) _ _ _ _ :: _) _ _); refine wl_ldA (s := shTrainState) (cs := cs1) rfl rfl rfl c1 hl1.out ?_))
  refine (spec_ok cz3 D0 cz4 D1 _ rz3 rz4 f0 f1).mono ?_
  rintro e w5 ⟨rfl, e5⟩
  have K := hid (fun y0 y1 W => impl_ok y0 D0 y1 D1 W)
  generalize res D0 D1 = r at *
  have m5 := s
  have sz5 := Ext.size e5
  replace e0 := e0.trans (e5)
  replace s := Nat.le_trans s (Ext.size (e5))
  replace c0 := c0.ext (e5)
  replace c1 := c1.ext (e5)
  replace rz3 := rz3.ext (e5)
  replace rz4 := rz4.ext (e5)
  replace r0 := h0.ext e0
  replace r1 := h1.ext e0
  clear e5
  obtain ⟨N5, hN5⟩ : ∃ N, N = w5.heap.size := ⟨_, rfl⟩
  rw [← hN5] at sz5 
  have s := Nat.le_of_eq hN5
  go_wp2_with (first | ((with_reducible show wpList _ _ _ (Oper.mk _ (Op.load _ _) _ _ _ _ :: _) _ _); refine wl_ldA (s := shOptimizer) (cs := cs0) rfl rfl rfl c0 hl0.out ?_) | ((with_reducible show wpList _ _ _ (Oper.mk _ (Op.load _ _) _ _ _ _ :: _) _ _); refine wl_ldA (s := shTrainState) (cs := cs1) rfl rfl rfl c1 hl1.out ?_))
  refine (toTrainState_ok cs1 D1 _ r1 hb1).mono ?_
  rintro e w6 ⟨c6, b6, rfl, o6, nd6, lo6, e6⟩
  have m6 := s
  have sz6 := Ext.size e6
  have lt6 := Own.lt o6
  replace e0 := e0.trans (e6)
  replace s := Nat.le_trans s (Ext.size (e6))
  replace c0 := c0.ext (e6)
  replace c1 := c1.ext (e6)
  replace rz3 := rz3.ext (e6)
  replace rz4 := rz4.ext (e6)
  replace r0 := h0.ext e0
  replace r1 := h1.ext e0
  clear e6
  obtain ⟨N6, hN6⟩ : ∃ N, N = w6.heap.size := ⟨_, rfl⟩
  rw [← hN6] at sz6 lt6
  have s := Nat.le_of_eq hN6
  have hxc6 := hid o6.rep.size
  have hyc6 := hid o6.rep.one
  go_wp2_with (first | ((with_reducible show wpList _ _ _ (Oper.mk _ (Op.load _ _) _ _ _ _ :: _) _ _); refine wl_ldA (s := shOptimizer) (cs := cs0) rfl rfl rfl c0 hl0.out ?_) | ((with_reducible show wpList _ _ _ (Oper.mk _ (Op.load _ _) _ _ _ _ :: _) _ _); refine wl_ldA (s := shTrainState) (cs := cs1) rfl rfl rfl c1 hl1.out ?_) | ((with_reducible show wpList _ _ _ (Oper.mk _ (Op.store _ _ _) _ _ _ _ :: _) _ _); refine wl_stA (s := shTrainState) (cs := c6) rfl rfl rfl rfl (by first | exact heap_alloc_new _ _ | exact heap_alloc_old2 _ _ _) rfl hxc6.out hyc6.out (by decide) ?_; intro wc7 cx7 ch7; have E7 := (Ext.of_chg1 ch7); have mc7 := s; replace e0 := e0.trans (E7); replace s := Nat.le_trans s (Ext.size (E7)); replace c0 := c0.ext (E7); replace c1 := c1.ext (E7); replace rz3 := rz3.ext (E7); replace rz4 := rz4.ext (E7); replace o6 := o6.ext (E7); replace r0 := h0.ext e0; replace r1 := h1.ext e0; have vl7 := Cs.blkLt cx7 (by rw [hxc6.out]; decide); obtain ⟨Nc7, hNc7⟩ : ∃ N, N = wc7.heap.size := ⟨_, rfl⟩; rw [← hNc7] at vl7; have s := Nat.le_of_eq hNc7; clear E7 ch7) | ((with_reducible show wpList _ _ _ (Oper.mk _ (Op.load _ _) _ _ _ _ :: _) _ _); refine wl_ldA (s := shTrainState) (cs := c6) rfl rfl rfl cx7 hxc6.out ?_))
  replace e0 := e0.trans ((Ext.drew _))
  replace s := Nat.le_trans s (Ext.size ((Ext.drew _)))
  replace c0 := c0.ext ((Ext.drew _))
  replace c1 := c1.ext ((Ext.drew _))
  replace rz3 := rz3.ext ((Ext.drew _))
  replace rz4 := rz4.ext ((Ext.drew _))
  replace o6 := o6.ext ((Ext.drew _))
  replace cx7 := cx7.ext ((Ext.drew _))
  replace r0 := h0.ext e0
  replace r1 := h1.ext e0
  obtain ⟨F8, hF8⟩ : ∃ F : Option Tmp → World → Value → Prop, F = fun d W u => (match d with | some 22 => ∃ cs', u = ofCs shOptimizer cs' ∧ Rep W shOptimizer cs' D0 | _ => True) := ⟨_, rfl⟩
  have HF8 := hid hF8
  clear hF8
  refine wp_region_xt 3 (F := F8) (by kernel_rfl) (by kernel_rfl) (by kernel_rfl) (by kernel_rfl) (by kernel_rfl) ?_
  intro wf hwf
  simp only [List.take_succ_cons, List.take_zero, List.drop_succ_cons, List.drop_zero]
  first | (refine x_ldA (s := shOptimizer) (cs := cs0) rfl rfl rfl c0 hl0.out ?_) | (refine x_ldA (s := shTrainState) (cs := cs1) rfl rfl rfl c1 hl1.out ?_) | (refine x_ldA (s := shTrainState) (cs := c6) rfl rfl rfl cx7 hxc6.out ?_)
  simp only [Act.put, ev_tmp, List.setIfInBounds_toArray, List.set_cons_succ, List.set_cons_zero, List.getD_cons_succ, List.getD_cons_zero]
  refine x_callf (f := 40) (args := #[ofCs shOptimizer cs0]) rfl rfl Try.func40 rfl (by kernel_rfl) ?_ ?_ ?_; (focus (simp [Act.eval]; done)); (focus (intro w1 hw1; exact ((toOptimizer_ok cs0 D0 w1 (r0.ext hw1) hb0).mono fun e w3 ⟨cs3, bs3, g1, g2, _, _, g3⟩ => ⟨_, g1, g3, by rw [HF8.out]; exact ⟨cs3, rfl, g2.rep⟩⟩))); rintro u w3 e3 e4 hu; simp only [HF8.out] at hu; obtain ⟨cz9, rfl, rz9⟩ := hu; replace rz9 := rz9.ext e4
  simp only [Act.put, ev_tmp, List.setIfInBounds_toArray, List.set_cons_succ, List.set_cons_zero, List.getD_cons_succ, List.getD_cons_zero]
  first | (refine x_ldA (s := shOptimizer) (cs := cs0) rfl rfl rfl c0 hl0.out ?_) | (refine x_ldA (s := shTrainState) (cs := cs1) rfl rfl rfl c1 hl1.out ?_) | (refine x_ldA (s := shTrainState) (cs := c6) rfl rfl rfl cx7 hxc6.out ?_)
  simp only [Act.put, ev_tmp, List.setIfInBounds_toArray, List.set_cons_succ, List.set_cons_zero, List.getD_cons_succ, List.getD_cons_zero]
  refine x_nil ?_
  replace e0 := e0.trans (hwf)
  replace s := Nat.le_trans s (Ext.size (hwf))
  replace c0 := c0.ext (hwf)
  replace c1 := c1.ext (hwf)
  replace rz3 := rz3.ext (hwf)
  replace rz4 := rz4.ext (hwf)
  replace o6 := o6.ext (hwf)
  replace cx7 := cx7.ext (hwf)
  replace r0 := h0.ext e0
  replace r1 := h1.ext e0
  clear hwf
  go_wp2_with (first | ((with_reducible show wpList _ _ _ (Oper.mk _ (Op.load _ _) _ _ _ _ :: _) _ _); refine wl_ldA (s := shOptimizer) (cs := cs0) rfl rfl rfl c0 hl0.out ?_) | ((with_reducible show wpList _ _ _ (Oper.mk _ (Op.load _ _) _ _ _ _ :: _) _ _); refine wl_ldA (s := shTrainState) (cs := cs1) rfl rfl rfl c1 hl1.out ?_) | ((with_reducible show wpList _ _ _ (Oper.mk _ (Op.load _ _) _ _ _ _ :: _) _ _); refine wl_ldA (s := shTrainState) (cs := c6) rfl rfl rfl cx7 hxc6.out ?_))
  refine (K.out cz9 c6 _ rz9 o6.rep f0 f1).mono ?_
  rintro e w10 ⟨rfl, e10⟩
  have m10 := s
  have sz10 := Ext.size e10
  replace e0 := e0.trans (e10)
  replace s := Nat.le_trans s (Ext.size (e10))
  replace c0 := c0.ext (e10)
  replace c1 := c1.ext (e10)
  replace rz3 := rz3.ext (e10)
  replace rz4 := rz4.ext (e10)
  replace o6 := o6.ext (e10)
  replace cx7 := cx7.ext (e10)
  replace rz9 := rz9.ext (e10)
  replace r0 := h0.ext e0
  replace r1 := h1.ext e0
  clear e10
  obtain ⟨N10, hN10⟩ : ∃ N, N = w10.heap.size := ⟨_, rfl⟩
  rw [← hN10] at sz10 
  have s := Nat.le_of_eq hN10
  go_wp2_with (first | ((with_reducible show wpList _ _ _ (Oper.mk _ (Op.load _ _) _ _ _ _ :: _) _ _); refine wl_ldA (s := shOptimizer) (cs := cs0) rfl rfl rfl c0 hl0.out ?_) | ((with_reducible show wpList _ _ _ (Oper.mk _ (Op.load _ _) _ _ _ _ :: _) _ _); refine wl_ldA (s := shTrainState) (cs := cs1) rfl rfl rfl c1 hl1.out ?_) | ((with_reducible show wpList _ _ _ (Oper.mk _ (Op.load _ _) _ _ _ _ :: _) _ _); refine wl_ldA (s := shTrainState) (cs := c6) rfl rfl rfl cx7 hxc6.out ?_))
  replace e0 := e0.trans ((Ext.drew _))
  replace s := Nat.le_trans s (Ext.size ((Ext.drew _)))
  replace c0 := c0.ext ((Ext.drew _))
  replace c1 := c1.ext ((Ext.drew _))
  replace rz3 := rz3.ext ((Ext.drew _))
  replace rz4 := rz4.ext ((Ext.drew _))
  replace o6 := o6.ext ((Ext.drew _))
  replace cx7 := cx7.ext ((Ext.drew _))
  replace rz9 := rz9.ext ((Ext.drew _))
  replace r0 := h0.ext e0
  replace r1 := h1.ext e0
  obtain ⟨F11, hF11⟩ : ∃ F : Option Tmp → World → Value → Prop, F = fun d W u => (match d with | some 30 => ∃ cs', u = ofCs shTrainState cs' ∧ Rep W shTrainState cs' D1 | _ => True) := ⟨_, rfl⟩
  have HF11 := hid hF11
  clear hF11
  refine wp_region_xt 3 (F := F11) (by kernel_rfl) (by kernel_rfl) (by kernel_rfl) (by kernel_rfl) (by kernel_rfl) ?_
  intro wf hwf
  simp only [List.take_succ_cons, List.take_zero, List.drop_succ_cons, List.drop_zero]
  first | (refine x_ldA (s := shOptimizer) (cs := cs0) rfl rfl rfl c0 hl0.out ?_) | (refine x_ldA (s := shTrainState) (cs := cs1) rfl rfl rfl c1 hl1.out ?_) | (refine x_ldA (s := shTrainState) (cs := c6) rfl rfl rfl cx7 hxc6.out ?_)
  simp only [Act.put, ev_tmp, List.setIfInBounds_toArray, List.set_cons_succ, List.set_cons_zero, List.getD_cons_succ, List.getD_cons_zero]
  first | (refine x_ldA (s := shOptimizer) (cs := cs0) rfl rfl rfl c0 hl0.out ?_) | (refine x_ldA (s := shTrainState) (cs := cs1) rfl rfl rfl c1 hl1.out ?_) | (refine x_ldA (s := shTrainState) (cs := c6) rfl rfl rfl cx7 hxc6.out ?_)
  simp only [Act.put, ev_tmp, List.setIfInBounds_toArray, List.set_cons_succ, List.set_cons_zero, List.getD_cons_succ, List.getD_cons_zero]
  refine x_callf (f := 15) (args := #[ofCs shTrainState cs1]) rfl rfl Try.func15 rfl (by kernel_rfl) ?_ ?_ ?_; (focus (simp [Act.eval]; done)); (focus (intro w1 hw1; exact ((toTrainState_ok cs1 D1 w1 (r1.ext hw1) hb1).mono fun e w3 ⟨cs3, bs3, g1, g2, _, _, g3⟩ => ⟨_, g1, g3, by rw [HF11.out]; exact ⟨cs3, rfl, g2.rep⟩⟩))); rintro u w3 e3 e4 hu; simp only [HF11.out] at hu; obtain ⟨cz12, rfl, rz12⟩ := hu; replace rz12 := rz12.ext e4
  simp only [Act.put, ev_tmp, List.setIfInBounds_toArray, List.set_cons_succ, List.set_cons_zero, List.getD_cons_succ, List.getD_cons_zero]
  refine x_nil ?_
  replace e0 := e0.trans (hwf)
  replace s := Nat.le_trans s (Ext.size (hwf))
  replace c0 := c0.ext (hwf)
  replace c1 := c1.ext (hwf)
  replace rz3 := rz3.ext (hwf)
  replace rz4 := rz4.ext (hwf)
  replace o6 := o6.ext (hwf)
  replace cx7 := cx7.ext (hwf)
  replace rz9 := rz9.ext (hwf)
  replace r0 := h0.ext e0
  replace r1 := h1.ext e0
  clear hwf
  go_wp2_with fail
  refine (eqTrainState_ok c6 cz12 D1 _ (o6.rep) (rz12) hb1).mono ?_
  rintro e w13 ⟨rfl, e13⟩
  replace e0 := e0.trans (e13)
  replace s := Nat.le_trans s (Ext.size (e13))
  replace c0 := c0.ext (e13)
  replace c1 := c1.ext (e13)
  replace rz3 := rz3.ext (e13)
  replace rz4 := rz4.ext (e13)
  replace o6 := o6.ext (e13)
  replace cx7 := cx7.ext (e13)
  replace rz9 := rz9.ext (e13)
  replace rz12 := rz12.ext (e13)
  replace r0 := h0.ext e0
  replace r1 := h1.ext e0
  clear e13
  go_wp2
  go_ret
  exact ⟨rfl, e0⟩
end Go.Proofs.Ythphfmngofbabaa.lValidTraining
