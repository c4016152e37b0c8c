/- The law FnExactSameTraining answers true at every input. -/
import Derived.Test.YthphfmngofbabaaSTra
import Derived.Test.YthphfmngofbabaaThings
namespace Go.Proofs.Ythphfmngofbabaa.lSameTraining
set_option linter.unusedSimpArgs false
set_option linter.unusedVariables false
open Go.RowKit

set_option maxRecDepth 100000 in
set_option maxHeartbeats 1000000 in
theorem law_any (cs0 : List Value) (D0 : Sh.T shTrainState) (cs1 : List Value) (D1 : Sh.T shTrainState) (w : World) (h0 : Rep w shTrainState cs0 D0) (h1 : Rep w shTrainState cs1 D1) (f0 : Fit shTrainState D0) (f1 : Fit shTrainState D1) : Calls Try.prog 3 #[ofCs shTrainState cs0, ofCs shTrainState cs1] w fun e w' => e = .returned (.bool true) ∧ Ext w w' := by
  have hl0 := hid h0.size
  have ho0 := hid h0.one
  have hl1 := hid h1.size
  have ho1 := hid h1.one
  have e0 := Ext.refl w
  obtain ⟨N0, hN0⟩ : ∃ N0, N0 = w.heap.size := ⟨_, rfl⟩
  have s := Nat.le_of_eq hN0
  have r0 := h0
  have r1 := h1
  go_enter Try.func3, Try.ntmps3
  go_wp2_with (first | ((with_reducible show wpList _ _ _ (Oper.mk _ (Op.box _ _) _ _ _ _ :: _) _ _); refine wl_box (s := shTrainState) (cs := cs0) rfl rfl rfl hl0.out ho0.out ?_; intro b0 v0 g0 vv0 c0; have mb0 := Nat.le_trans s vv0; replace e0 := e0.trans (g0); replace s := Nat.le_trans s (Ext.size (g0)); replace r0 := h0.ext e0; replace r1 := h1.ext e0; have vl0 := Cs.blkLt c0 (by rw [hl0.out]; decide); obtain ⟨Nb0, hNb0⟩ : ∃ N, N = v0.heap.size := ⟨_, rfl⟩; rw [← hNb0] at vl0; have s := Nat.le_of_eq hNb0) | ((with_reducible show wpList _ _ _ (Oper.mk _ (Op.box _ _) _ _ _ _ :: _) _ _); refine wl_box (s := shTrainState) (cs := cs1) rfl rfl rfl hl1.out ho1.out ?_; intro b1 v1 g1 vv1 c1; have mb1 := Nat.le_trans s vv1; replace e0 := e0.trans (g1); replace s := Nat.le_trans s (Ext.size (g1)); replace r0 := h0.ext e0; replace r1 := h1.ext e0; replace c0 := c0.ext g1; have vl1 := Cs.blkLt c1 (by rw [hl1.out]; decide); obtain ⟨Nb1, hNb1⟩ : ∃ N, N = v1.heap.size := ⟨_, rfl⟩; rw [← hNb1] at vl1; have s := Nat.le_of_eq hNb1) | ((with_reducible show wpList _ _ _ (Oper.mk _ (Op.load _ _) _ _ _ _ :: _) _ _); refine wl_ldA (s := shTrainState) (cs := cs0) rfl rfl rfl c0 hl0.out ?_) | ((with_reducible show wpList _ _ _ (Oper.mk _ (Op.load _ _) _ _ _ _ :: _) _ _); refine wl_ldA (s := shTrainState) (cs := cs1) rfl rfl rfl c1 hl1.out ?_))
  refine (szTrainState_ok cs0 D0 1048576 _ r0 (by omega) (by omega)).mono ?_
  rintro e w1 ⟨⟨s1, rfl, hs1⟩, e1⟩
  replace e0 := e0.trans (e1)
  replace s := Nat.le_trans s (Ext.size (e1))
  replace c0 := c0.ext (e1)
  replace c1 := c1.ext (e1)
  replace r0 := h0.ext e0
  replace r1 := h1.ext e0
  clear e1
  by_cases hn1 : s1 < 0
  · go_wp2
    go_ret
    exact ⟨rfl, e0⟩
  have hb0 : tot shTrainState D0 ≤ 1048576 := by rcases hs1 with h | h; exact absurd h hn1; omega
  have hz1 : 0 ≤ s1 := by omega
  have ht1 : s1 ≤ 1048576 := by rcases hs1 with h | h; exact absurd h hn1; omega
  clear hs1
  go_wp2_with (first | ((with_reducible show wpList _ _ _ (Oper.mk _ (Op.load _ _) _ _ _ _ :: _) _ _); refine wl_ldA (s := shTrainState) (cs := cs0) rfl rfl rfl c0 hl0.out ?_) | ((with_reducible show wpList _ _ _ (Oper.mk _ (Op.load _ _) _ _ _ _ :: _) _ _); refine wl_ldA (s := shTrainState) (cs := cs1) rfl rfl rfl c1 hl1.out ?_))
  refine (szTrainState_ok cs1 D1 s1 _ r1 (by omega) (by omega)).mono ?_
  rintro e w2 ⟨⟨s2, rfl, hs2⟩, e2⟩
  replace e0 := e0.trans (e2)
  replace s := Nat.le_trans s (Ext.size (e2))
  replace c0 := c0.ext (e2)
  replace c1 := c1.ext (e2)
  replace r0 := h0.ext e0
  replace r1 := h1.ext e0
  clear e2
  by_cases hn2 : s2 < 0
  · go_wp2
    go_ret
    exact ⟨rfl, e0⟩
  have hb1 : tot shTrainState D1 ≤ 1048576 := by rcases hs2 with h | h; exact absurd h hn2; omega
  have hz2 : 0 ≤ s2 := by omega
  have ht2 : s2 ≤ 1048576 := by rcases hs2 with h | h; exact absurd h hn2; omega
  clear hs2
  go_wp2_with (first | ((with_reducible show wpList _ _ _ (Oper.mk _ (Op.load _ _) _ _ _ _ :: _) _ _); refine wl_ldA (s := shTrainState) (cs := cs0) rfl rfl rfl c0 hl0.out ?_) | ((with_reducible show wpList _ _ _ (Oper.mk _ (Op.load _ _) _ _ _ _ :: _) _ _); refine wl_ldA (s := shTrainState) (cs := cs1) rfl rfl rfl c1 hl1.out ?_))
  replace e0 := e0.trans ((Ext.drew _))
  replace s := Nat.le_trans s (Ext.size ((Ext.drew _)))
  replace c0 := c0.ext ((Ext.drew _))
  replace c1 := c1.ext ((Ext.drew _))
  replace r0 := h0.ext e0
  replace r1 := h1.ext e0
  obtain ⟨F3, hF3⟩ : ∃ F : Option Tmp → World → Value → Prop, F = fun d W u => (match d with | some 21 => ∃ cs', u = ofCs shTrainState cs' ∧ Rep W shTrainState cs' D0 | some 23 => ∃ cs', u = ofCs shTrainState cs' ∧ Rep W shTrainState cs' D1 | _ => True) := ⟨_, rfl⟩
  have HF3 := hid hF3
  clear hF3
  refine wp_region_xt 4 (F := F3) (by kernel_rfl) (by kernel_rfl) (by kernel_rfl) (by kernel_rfl) (by kernel_rfl) ?_
  intro wf hwf
  simp only [List.take_succ_cons, List.take_zero, List.drop_succ_cons, List.drop_zero]
  first | (refine x_ldA (s := shTrainState) (cs := cs0) rfl rfl rfl c0 hl0.out ?_) | (refine x_ldA (s := shTrainState) (cs := cs1) rfl rfl rfl c1 hl1.out ?_)
  simp only [Act.put, ev_tmp, List.setIfInBounds_toArray, List.set_cons_succ, List.set_cons_zero, List.getD_cons_succ, List.getD_cons_zero]
  refine x_callf (f := 15) (args := #[ofCs shTrainState cs0]) rfl rfl Try.func15 rfl (by kernel_rfl) ?_ ?_ ?_; (focus (simp [Act.eval]; done)); (focus (intro w1 hw1; exact ((toTrainState_ok cs0 D0 w1 (r0.ext hw1) hb0).mono fun e w3 ⟨cs3, bs3, g1, g2, _, _, g3⟩ => ⟨_, g1, g3, by rw [HF3.out]; exact ⟨cs3, rfl, g2.rep⟩⟩))); rintro u w3 e3 e4 hu; simp only [HF3.out] at hu; obtain ⟨cz4, rfl, rz4⟩ := hu; replace rz4 := rz4.ext e4
  simp only [Act.put, ev_tmp, List.setIfInBounds_toArray, List.set_cons_succ, List.set_cons_zero, List.getD_cons_succ, List.getD_cons_zero]
  first | (refine x_ldA (s := shTrainState) (cs := cs0) rfl rfl rfl c0 hl0.out ?_) | (refine x_ldA (s := shTrainState) (cs := cs1) rfl rfl rfl c1 hl1.out ?_)
  simp only [Act.put, ev_tmp, List.setIfInBounds_toArray, List.set_cons_succ, List.set_cons_zero, List.getD_cons_succ, List.getD_cons_zero]
  refine x_callf (f := 15) (args := #[ofCs shTrainState cs1]) rfl rfl Try.func15 rfl (by kernel_rfl) ?_ ?_ ?_; (focus (simp [Act.eval]; done)); (focus (intro w1 hw1; exact ((toTrainState_ok cs1 D1 w1 (r1.ext hw1) hb1).mono fun e w3 ⟨cs3, bs3, g1, g2, _, _, g3⟩ => ⟨_, g1, g3, by rw [HF3.out]; exact ⟨cs3, rfl, g2.rep⟩⟩))); rintro u w3 e3 e4 hu; simp only [HF3.out] at hu; obtain ⟨cz5, rfl, rz5⟩ := hu; replace rz5 := rz5.ext e4
  simp only [Act.put, ev_tmp, List.setIfInBounds_toArray, List.set_cons_succ, List.set_cons_zero, List.getD_cons_succ, List.getD_cons_zero]
  refine x_nil ?_
  replace e0 := e0.trans (hwf)
  replace s := Nat.le_trans s (Ext.size (hwf))
  replace c0 := c0.ext (hwf)
  replace c1 := c1.ext (hwf)
  replace r0 := h0.ext e0
  replace r1 := h1.ext e0
  clear hwf
  go_wp2_with (first | ((with_reducible show wpList _ _ _ (Oper.mk _ (Op.load _ _) _ _ _ _ :: _) _ _); refine wl_ldA (s := shTrainState) (cs := cs0) rfl rfl rfl c0 hl0.out ?_) | ((with_reducible show wpList _ _ _ (Oper.mk _ (Op.load _ _) _ _ _ _ :: _) _ _); refine wl_ldA (s := shTrainState) (cs := cs1) rfl rfl rfl c1 hl1.out ?_))
  refine (spec_ok cz4 D0 cz5 D1 _ rz4 rz5 f0 f1).mono ?_
  rintro e w6 ⟨rfl, e6⟩
  have K := hid (fun y0 y1 W => impl_ok y0 D0 y1 D1 W)
  generalize res D0 D1 = r at *
  have m6 := s
  have sz6 := Ext.size e6
  replace e0 := e0.trans (e6)
  replace s := Nat.le_trans s (Ext.size (e6))
  replace c0 := c0.ext (e6)
  replace c1 := c1.ext (e6)
  replace rz4 := rz4.ext (e6)
  replace rz5 := rz5.ext (e6)
  replace r0 := h0.ext e0
  replace r1 := h1.ext e0
  clear e6
  obtain ⟨N6, hN6⟩ : ∃ N, N = w6.heap.size := ⟨_, rfl⟩
  rw [← hN6] at sz6 
  have s := Nat.le_of_eq hN6
  go_wp2_with (first | ((with_reducible show wpList _ _ _ (Oper.mk _ (Op.load _ _) _ _ _ _ :: _) _ _); refine wl_ldA (s := shTrainState) (cs := cs0) rfl rfl rfl c0 hl0.out ?_) | ((with_reducible show wpList _ _ _ (Oper.mk _ (Op.load _ _) _ _ _ _ :: _) _ _); refine wl_ldA (s := shTrainState) (cs := cs1) rfl rfl rfl c1 hl1.out ?_))
  refine (toTrainState_ok cs0 D0 _ r0 hb0).mono ?_
  rintro e w7 ⟨c7, b7, rfl, o7, nd7, lo7, e7⟩
  have m7 := s
  have sz7 := Ext.size e7
  have lt7 := Own.lt o7
  replace e0 := e0.trans (e7)
  replace s := Nat.le_trans s (Ext.size (e7))
  replace c0 := c0.ext (e7)
  replace c1 := c1.ext (e7)
  replace rz4 := rz4.ext (e7)
  replace rz5 := rz5.ext (e7)
  replace r0 := h0.ext e0
  replace r1 := h1.ext e0
  clear e7
  obtain ⟨N7, hN7⟩ : ∃ N, N = w7.heap.size := ⟨_, rfl⟩
  rw [← hN7] at sz7 lt7
  have s := Nat.le_of_eq hN7
  have hxc7 := hid o7.rep.size
  have hyc7 := hid o7.rep.one
  go_wp2_with (first | ((with_reducible show wpList _ _ _ (Oper.mk _ (Op.load _ _) _ _ _ _ :: _) _ _); refine wl_ldA (s := shTrainState) (cs := cs0) rfl rfl rfl c0 hl0.out ?_) | ((with_reducible show wpList _ _ _ (Oper.mk _ (Op.load _ _) _ _ _ _ :: _) _ _); refine wl_ldA (s := shTrainState) (cs := cs1) rfl rfl rfl c1 hl1.out ?_) | ((with_reducible show wpList _ _ _ (Oper.mk _ (Op.store _ _ _) _ _ _ _ :: _) _ _); refine wl_stA (s := shTrainState) (cs := c7) rfl rfl rfl rfl (by first | exact heap_alloc_new _ _ | exact heap_alloc_old2 _ _ _) rfl hxc7.out hyc7.out (by decide) ?_; intro wc8 cx8 ch8; have E8 := (Ext.of_chg1 ch8); have mc8 := s; replace e0 := e0.trans (E8); replace s := Nat.le_trans s (Ext.size (E8)); replace c0 := c0.ext (E8); replace c1 := c1.ext (E8); replace rz4 := rz4.ext (E8); replace rz5 := rz5.ext (E8); replace o7 := o7.ext (E8); replace r0 := h0.ext e0; replace r1 := h1.ext e0; have vl8 := Cs.blkLt cx8 (by rw [hxc7.out]; decide); obtain ⟨Nc8, hNc8⟩ : ∃ N, N = wc8.heap.size := ⟨_, rfl⟩; rw [← hNc8] at vl8; have s := Nat.le_of_eq hNc8; clear E8 ch8) | ((with_reducible show wpList _ _ _ (Oper.mk _ (Op.load _ _) _ _ _ _ :: _) _ _); refine wl_ldA (s := shTrainState) (cs := c7) rfl rfl rfl cx8 hxc7.out ?_))
  refine (toTrainState_ok cs1 D1 _ r1 hb1).mono ?_
  rintro e w9 ⟨c9, b9, rfl, o9, nd9, lo9, e9⟩
  have m9 := s
  have sz9 := Ext.size e9
  have lt9 := Own.lt o9
  replace e0 := e0.trans (e9)
  replace s := Nat.le_trans s (Ext.size (e9))
  replace c0 := c0.ext (e9)
  replace c1 := c1.ext (e9)
  replace rz4 := rz4.ext (e9)
  replace rz5 := rz5.ext (e9)
  replace o7 := o7.ext (e9)
  replace cx8 := cx8.ext (e9)
  replace r0 := h0.ext e0
  replace r1 := h1.ext e0
  clear e9
  obtain ⟨N9, hN9⟩ : ∃ N, N = w9.heap.size := ⟨_, rfl⟩
  rw [← hN9] at sz9 lt9
  have s := Nat.le_of_eq hN9
  have hxc9 := hid o9.rep.size
  have hyc9 := hid o9.rep.one
  go_wp2_with (first | ((with_reducible show wpList _ _ _ (Oper.mk _ (Op.load _ _) _ _ _ _ :: _) _ _); refine wl_ldA (s := shTrainState) (cs := cs0) rfl rfl rfl c0 hl0.out ?_) | ((with_reducible show wpList _ _ _ (Oper.mk _ (Op.load _ _) _ _ _ _ :: _) _ _); refine wl_ldA (s := shTrainState) (cs := cs1) rfl rfl rfl c1 hl1.out ?_) | ((with_reducible show wpList _ _ _ (Oper.mk _ (Op.load _ _) _ _ _ _ :: _) _ _); refine wl_ldA (s := shTrainState) (cs := c7) rfl rfl rfl cx8 hxc7.out ?_) | ((with_reducible show wpList _ _ _ (Oper.mk _ (Op.store _ _ _) _ _ _ _ :: _) _ _); refine wl_stA (s := shTrainState) (cs := c9) rfl rfl rfl rfl (by first | exact heap_alloc_new _ _ | exact heap_alloc_old2 _ _ _) rfl hxc9.out hyc9.out (by decide) ?_; intro wc10 cx10 ch10; have E10 := (Ext.of_chg1 ch10); have mc10 := s; replace e0 := e0.trans (E10); replace s := Nat.le_trans s (Ext.size (E10)); replace c0 := c0.ext (E10); replace c1 := c1.ext (E10); replace rz4 := rz4.ext (E10); replace rz5 := rz5.ext (E10); replace o7 := o7.ext (E10); replace cx8 := cx8.ext (E10); replace o9 := o9.ext (E10); replace r0 := h0.ext e0; replace r1 := h1.ext e0; have vl10 := Cs.blkLt cx10 (by rw [hxc9.out]; decide); obtain ⟨Nc10, hNc10⟩ : ∃ N, N = wc10.heap.size := ⟨_, rfl⟩; rw [← hNc10] at vl10; have s := Nat.le_of_eq hNc10; clear E10 ch10) | ((with_reducible show wpList _ _ _ (Oper.mk _ (Op.load _ _) _ _ _ _ :: _) _ _); refine wl_ldA (s := shTrainState) (cs := c9) rfl rfl rfl cx10 hxc9.out ?_))
  refine (K.out c7 c9 _ o7.rep o9.rep f0 f1).mono ?_
  rintro e w11 ⟨rfl, e11⟩
  have m11 := s
  have sz11 := Ext.size e11
  replace e0 := e0.trans (e11)
  replace s := Nat.le_trans s (Ext.size (e11))
  replace c0 := c0.ext (e11)
  replace c1 := c1.ext (e11)
  replace rz4 := rz4.ext (e11)
  replace rz5 := rz5.ext (e11)
  replace o7 := o7.ext (e11)
  replace cx8 := cx8.ext (e11)
  replace o9 := o9.ext (e11)
  replace cx10 := cx10.ext (e11)
  replace r0 := h0.ext e0
  replace r1 := h1.ext e0
  clear e11
  obtain ⟨N11, hN11⟩ : ∃ N, N = w11.heap.size := ⟨_, rfl⟩
  rw [← hN11] at sz11 
  have s := Nat.le_of_eq hN11
  go_wp2_with (first | ((with_reducible show wpList _ _ _ (Oper.mk _ (Op.load _ _) _ _ _ _ :: _) _ _); refine wl_ldA (s := shTrainState) (cs := cs0) rfl rfl rfl c0 hl0.out ?_) | ((with_reducible show wpList _ _ _ (Oper.mk _ (Op.load _ _) _ _ _ _ :: _) _ _); refine wl_ldA (s := shTrainState) (cs := cs1) rfl rfl rfl c1 hl1.out ?_) | ((with_reducible show wpList _ _ _ (Oper.mk _ (Op.load _ _) _ _ _ _ :: _) _ _); refine wl_ldA (s := shTrainState) (cs := c7) rfl rfl rfl cx8 hxc7.out ?_) | ((with_reducible show wpList _ _ _ (Oper.mk _ (Op.load _ _) _ _ _ _ :: _) _ _); refine wl_ldA (s := shTrainState) (cs := c9) rfl rfl rfl cx10 hxc9.out ?_))
  replace e0 := e0.trans ((Ext.drew _))
  replace s := Nat.le_trans s (Ext.size ((Ext.drew _)))
  replace c0 := c0.ext ((Ext.drew _))
  replace c1 := c1.ext ((Ext.drew _))
  replace rz4 := rz4.ext ((Ext.drew _))
  replace rz5 := rz5.ext ((Ext.drew _))
  replace o7 := o7.ext ((Ext.drew _))
  replace cx8 := cx8.ext ((Ext.drew _))
  replace o9 := o9.ext ((Ext.drew _))
  replace cx10 := cx10.ext ((Ext.drew _))
  replace r0 := h0.ext e0
  replace r1 := h1.ext e0
  obtain ⟨F12, hF12⟩ : ∃ F : Option Tmp → World → Value → Prop, F = fun d W u => (match d with | some 37 => ∃ cs', u = ofCs shTrainState cs' ∧ Rep W shTrainState cs' D0 | _ => True) := ⟨_, rfl⟩
  have HF12 := hid hF12
  clear hF12
  refine wp_region_xt 3 (F := F12) (by kernel_rfl) (by kernel_rfl) (by kernel_rfl) (by kernel_rfl) (by kernel_rfl) ?_
  intro wf hwf
  simp only [List.take_succ_cons, List.take_zero, List.drop_succ_cons, List.drop_zero]
  first | (refine x_ldA (s := shTrainState) (cs := cs0) rfl rfl rfl c0 hl0.out ?_) | (refine x_ldA (s := shTrainState) (cs := cs1) rfl rfl rfl c1 hl1.out ?_) | (refine x_ldA (s := shTrainState) (cs := c7) rfl rfl rfl cx8 hxc7.out ?_) | (refine x_ldA (s := shTrainState) (cs := c9) rfl rfl rfl cx10 hxc9.out ?_)
  simp only [Act.put, ev_tmp, List.setIfInBounds_toArray, List.set_cons_succ, List.set_cons_zero, List.getD_cons_succ, List.getD_cons_zero]
  first | (refine x_ldA (s := shTrainState) (cs := cs0) rfl rfl rfl c0 hl0.out ?_) | (refine x_ldA (s := shTrainState) (cs := cs1) rfl rfl rfl c1 hl1.out ?_) | (refine x_ldA (s := shTrainState) (cs := c7) rfl rfl rfl cx8 hxc7.out ?_) | (refine x_ldA (s := shTrainState) (cs := c9) rfl rfl rfl cx10 hxc9.out ?_)
  simp only [Act.put, ev_tmp, List.setIfInBounds_toArray, List.set_cons_succ, List.set_cons_zero, List.getD_cons_succ, List.getD_cons_zero]
  refine x_callf (f := 15) (args := #[ofCs shTrainState cs0]) rfl rfl Try.func15 rfl (by kernel_rfl) ?_ ?_ ?_; (focus (simp [Act.eval]; done)); (focus (intro w1 hw1; exact ((toTrainState_ok cs0 D0 w1 (r0.ext hw1) hb0).mono fun e w3 ⟨cs3, bs3, g1, g2, _, _, g3⟩ => ⟨_, g1, g3, by rw [HF12.out]; exact ⟨cs3, rfl, g2.rep⟩⟩))); rintro u w3 e3 e4 hu; simp only [HF12.out] at hu; obtain ⟨cz13, rfl, rz13⟩ := hu; replace rz13 := rz13.ext e4
  simp only [Act.put, ev_tmp, List.setIfInBounds_toArray, List.set_cons_succ, List.set_cons_zero, List.getD_cons_succ, List.getD_cons_zero]
  refine x_nil ?_
  replace e0 := e0.trans (hwf)
  replace s := Nat.le_trans s (Ext.size (hwf))
  replace c0 := c0.ext (hwf)
  replace c1 := c1.ext (hwf)
  replace rz4 := rz4.ext (hwf)
  replace rz5 := rz5.ext (hwf)
  replace o7 := o7.ext (hwf)
  replace cx8 := cx8.ext (hwf)
  replace o9 := o9.ext (hwf)
  replace cx10 := cx10.ext (hwf)
  replace r0 := h0.ext e0
  replace r1 := h1.ext e0
  clear hwf
  go_wp2_with fail
  refine (eqTrainState_ok c7 cz13 D0 _ (o7.rep) (rz13) hb0).mono ?_
  rintro e w14 ⟨rfl, e14⟩
  replace e0 := e0.trans (e14)
  replace s := Nat.le_trans s (Ext.size (e14))
  replace c0 := c0.ext (e14)
  replace c1 := c1.ext (e14)
  replace rz4 := rz4.ext (e14)
  replace rz5 := rz5.ext (e14)
  replace o7 := o7.ext (e14)
  replace cx8 := cx8.ext (e14)
  replace o9 := o9.ext (e14)
  replace cx10 := cx10.ext (e14)
  replace rz13 := rz13.ext (e14)
  replace r0 := h0.ext e0
  replace r1 := h1.ext e0
  clear e14
  go_wp2_with (first | ((with_reducible show wpList _ _ _ (Oper.mk _ (Op.load _ _) _ _ _ _ :: _) _ _); refine wl_ldA (s := shTrainState) (cs := cs0) rfl rfl rfl c0 hl0.out ?_) | ((with_reducible show wpList _ _ _ (Oper.mk _ (Op.load _ _) _ _ _ _ :: _) _ _); refine wl_ldA (s := shTrainState) (cs := cs1) rfl rfl rfl c1 hl1.out ?_) | ((with_reducible show wpList _ _ _ (Oper.mk _ (Op.load _ _) _ _ _ _ :: _) _ _); refine wl_ldA (s := shTrainState) (cs := c7) rfl rfl rfl cx8 hxc7.out ?_) | ((with_reducible show wpList _ _ _ (Oper.mk _ (Op.load _ _) _ _ _ _ :: _) _ _); refine wl_ldA (s := shTrainState) (cs := c9) rfl rfl rfl cx10 hxc9.out ?_))
  replace e0 := e0.trans ((Ext.drew _))
  replace s := Nat.le_trans s (Ext.size ((Ext.drew _)))
  replace c0 := c0.ext ((Ext.drew _))
  replace c1 := c1.ext ((Ext.drew _))
  replace rz4 := rz4.ext ((Ext.drew _))
  replace rz5 := rz5.ext ((Ext.drew _))
  replace o7 := o7.ext ((Ext.drew _))
  replace cx8 := cx8.ext ((Ext.drew _))
  replace o9 := o9.ext ((Ext.drew _))
  replace cx10 := cx10.ext ((Ext.drew _))
  replace rz13 := rz13.ext ((Ext.drew _))
  replace r0 := h0.ext e0
  replace r1 := h1.ext e0
  obtain ⟨F15, hF15⟩ : ∃ F : Option Tmp → World → Value → Prop, F = fun d W u => (match d with | some 42 => ∃ cs', u = ofCs shTrainState cs' ∧ Rep W shTrainState cs' D1 | _ => True) := ⟨_, rfl⟩
  have HF15 := hid hF15
  clear hF15
  refine wp_region_xt 3 (F := F15) (by kernel_rfl) (by kernel_rfl) (by kernel_rfl) (by kernel_rfl) (by kernel_rfl) ?_
  intro wf hwf
  simp only [List.take_succ_cons, List.take_zero, List.drop_succ_cons, List.drop_zero]
  first | (refine x_ldA (s := shTrainState) (cs := cs0) rfl rfl rfl c0 hl0.out ?_) | (refine x_ldA (s := shTrainState) (cs := cs1) rfl rfl rfl c1 hl1.out ?_) | (refine x_ldA (s := shTrainState) (cs := c7) rfl rfl rfl cx8 hxc7.out ?_) | (refine x_ldA (s := shTrainState) (cs := c9) rfl rfl rfl cx10 hxc9.out ?_)
  simp only [Act.put, ev_tmp, List.setIfInBounds_toArray, List.set_cons_succ, List.set_cons_zero, List.getD_cons_succ, List.getD_cons_zero]
  first | (refine x_ldA (s := shTrainState) (cs := cs0) rfl rfl rfl c0 hl0.out ?_) | (refine x_ldA (s := shTrainState) (cs := cs1) rfl rfl rfl c1 hl1.out ?_) | (refine x_ldA (s := shTrainState) (cs := c7) rfl rfl rfl cx8 hxc7.out ?_) | (refine x_ldA (s := shTrainState) (cs := c9) rfl rfl rfl cx10 hxc9.out ?_)
  simp only [Act.put, ev_tmp, List.setIfInBounds_toArray, List.set_cons_succ, List.set_cons_zero, List.getD_cons_succ, List.getD_cons_zero]
  refine x_callf (f := 15) (args := #[ofCs shTrainState cs1]) rfl rfl Try.func15 rfl (by kernel_rfl) ?_ ?_ ?_; (focus (simp [Act.eval]; done)); (focus (intro w1 hw1; exact ((toTrainState_ok cs1 D1 w1 (r1.ext hw1) hb1).mono fun e w3 ⟨cs3, bs3, g1, g2, _, _, g3⟩ => ⟨_, g1, g3, by rw [HF15.out]; exact ⟨cs3, rfl, g2.rep⟩⟩))); rintro u w3 e3 e4 hu; simp only [HF15.out] at hu; obtain ⟨cz16, rfl, rz16⟩ := hu; replace rz16 := rz16.ext e4
  simp only [Act.put, ev_tmp, List.setIfInBounds_toArray, List.set_cons_succ, List.set_cons_zero, List.getD_cons_succ, List.getD_cons_zero]
  refine x_nil ?_
  replace e0 := e0.trans (hwf)
  replace s := Nat.le_trans s (Ext.size (hwf))
  replace c0 := c0.ext (hwf)
  replace c1 := c1.ext (hwf)
  replace rz4 := rz4.ext (hwf)
  replace rz5 := rz5.ext (hwf)
  replace o7 := o7.ext (hwf)
  replace cx8 := cx8.ext (hwf)
  replace o9 := o9.ext (hwf)
  replace cx10 := cx10.ext (hwf)
  replace rz13 := rz13.ext (hwf)
  replace r0 := h0.ext e0
  replace r1 := h1.ext e0
  clear hwf
  go_wp2_with fail
  refine (eqTrainState_ok c9 cz16 D1 _ (o9.rep) (rz16) hb1).mono ?_
  rintro e w17 ⟨rfl, e17⟩
  replace e0 := e0.trans (e17)
  replace s := Nat.le_trans s (Ext.size (e17))
  replace c0 := c0.ext (e17)
  replace c1 := c1.ext (e17)
  replace rz4 := rz4.ext (e17)
  replace rz5 := rz5.ext (e17)
  replace o7 := o7.ext (e17)
  replace cx8 := cx8.ext (e17)
  replace o9 := o9.ext (e17)
  replace cx10 := cx10.ext (e17)
  replace rz13 := rz13.ext (e17)
  replace rz16 := rz16.ext (e17)
  replace r0 := h0.ext e0
  replace r1 := h1.ext e0
  clear e17
  go_wp2
  go_ret
  exact ⟨rfl, e0⟩
end Go.Proofs.Ythphfmngofbabaa.lSameTraining
