/- The law FnExactRunPlan answers true at every input. -/
import Derived.Test.YtangnigplachdaaRPlan
import Derived.Test.YtangnigplachdaaKb
import Derived.Test.YtangnigplachdaaKf
namespace Go.Proofs.Ytangnigplachdaa.lRunPlan
set_option linter.unusedSimpArgs false
set_option linter.unusedVariables false
open Go.RowKit

set_option maxRecDepth 100000 in
set_option maxHeartbeats 1000000 in
theorem law_any (cs0 : List Value) (D0 : Sh.T shPlan) (cs1 : List Value) (D1 : Sh.T (.sl .flt)) (w : World) (h0 : Rep w shPlan cs0 D0) (h1 : Rep w (.sl .flt) cs1 D1)  : Calls Try.prog 7 #[ofCs shPlan cs0, ofCs (.sl .flt) cs1] w fun e w' => e = .returned (.bool true) ∧ Ext w w' := by
  have hl0 := hid h0.size
  have ho0 := hid h0.one
  have hl1 := hid h1.size
  have ho1 := hid h1.one
  obtain ⟨p1, q1, rfl, hm1⟩ := rep_val h1
  rw [show ofCs (.sl .flt) [.slice p1 (List.length D1) q1] = .slice p1 (List.length D1) q1 from rfl]
  have e0 := Ext.refl w
  obtain ⟨N0, hN0⟩ : ∃ N0, N0 = w.heap.size := ⟨_, rfl⟩
  have s := Nat.le_of_eq hN0
  have r0 := h0
  have r1 := h1
  go_enter Try.func7, Try.ntmps7
  by_cases hbig1 : 1048576 < List.length D1
  · go_wp2_with (first | ((with_reducible show wpList _ _ _ (Oper.mk _ (Op.box _ _) _ _ _ _ :: _) _ _); refine wl_box (s := shPlan) (cs := cs0) rfl rfl rfl hl0.out ho0.out ?_; intro b0 v0 g0 vv0 c0; have mb0 := Nat.le_trans s vv0; replace e0 := e0.trans (g0); replace s := Nat.le_trans s (Ext.size (g0)); replace r0 := h0.ext e0; replace r1 := h1.ext e0; have vl0 := Cs.blkLt c0 (by rw [hl0.out]; decide); obtain ⟨Nb0, hNb0⟩ : ∃ N, N = v0.heap.size := ⟨_, rfl⟩; rw [← hNb0] at vl0; have s := Nat.le_of_eq hNb0) | ((with_reducible show wpList _ _ _ (Oper.mk _ (Op.load _ _) _ _ _ _ :: _) _ _); refine wl_ldAw (s := shPlan) (cs := cs0) (by first | rfl | (go_simp; done) | (go_simp; omega)) rfl rfl c0 hl0.out ?_))
    go_ret
    exact ⟨rfl, e0⟩
  have hb1 : tot (.sl .flt) D1 ≤ 1048576 := by rw [tot_flts]; omega
  go_wp2_with (first | ((with_reducible show wpList _ _ _ (Oper.mk _ (Op.box _ _) _ _ _ _ :: _) _ _); refine wl_box (s := shPlan) (cs := cs0) rfl rfl rfl hl0.out ho0.out ?_; intro b0 v0 g0 vv0 c0; have mb0 := Nat.le_trans s vv0; replace e0 := e0.trans (g0); replace s := Nat.le_trans s (Ext.size (g0)); replace r0 := h0.ext e0; replace r1 := h1.ext e0; have vl0 := Cs.blkLt c0 (by rw [hl0.out]; decide); obtain ⟨Nb0, hNb0⟩ : ∃ N, N = v0.heap.size := ⟨_, rfl⟩; rw [← hNb0] at vl0; have s := Nat.le_of_eq hNb0) | ((with_reducible show wpList _ _ _ (Oper.mk _ (Op.load _ _) _ _ _ _ :: _) _ _); refine wl_ldAw (s := shPlan) (cs := cs0) (by first | rfl | (go_simp; done) | (go_simp; omega)) rfl rfl c0 hl0.out ?_))
  refine (szPlan_ok cs0 D0 1048576 _ r0 (by omega) (by omega)).mono ?_
  rintro e w1 ⟨⟨s1, rfl, hs1⟩, e1⟩
  replace e0 := e0.trans (e1)
  replace s := Nat.le_trans s (Ext.size (e1))
  replace c0 := c0.ext (e1)
  replace r0 := h0.ext e0
  replace r1 := h1.ext e0
  clear e1
  by_cases hn1 : s1 < 0
  · go_wp2
    go_ret
    exact ⟨rfl, e0⟩
  have hb0 : tot shPlan D0 ≤ 1048576 := by rcases hs1 with h | h; exact absurd h hn1; omega
  have hz1 : 0 ≤ s1 := by omega
  have ht1 : s1 ≤ 1048576 := by rcases hs1 with h | h; exact absurd h hn1; omega
  clear hs1
  go_wp2_with (first | ((with_reducible show wpList _ _ _ (Oper.mk _ (Op.load _ _) _ _ _ _ :: _) _ _); refine wl_ldAw (s := shPlan) (cs := cs0) (by first | rfl | (go_simp; done) | (go_simp; omega)) rfl rfl c0 hl0.out ?_))
  refine (toPlan_ok cs0 D0 _ r0 hb0).mono ?_
  rintro e w2 ⟨c2, b2, rfl, o2, nd2, lo2, e2⟩
  have m2 := s
  have sz2 := Ext.size e2
  have lt2 := Own.lt o2
  replace e0 := e0.trans (e2)
  replace s := Nat.le_trans s (Ext.size (e2))
  replace c0 := c0.ext (e2)
  replace r0 := h0.ext e0
  replace r1 := h1.ext e0
  clear e2
  obtain ⟨N2, hN2⟩ : ∃ N, N = w2.heap.size := ⟨_, rfl⟩
  rw [← hN2] at sz2 lt2
  have s := Nat.le_of_eq hN2
  have hxc2 := hid o2.rep.size
  have hyc2 := hid o2.rep.one
  go_wp2_with (first | ((with_reducible show wpList _ _ _ (Oper.mk _ (Op.load _ _) _ _ _ _ :: _) _ _); refine wl_ldAw (s := shPlan) (cs := cs0) (by first | rfl | (go_simp; done) | (go_simp; omega)) rfl rfl c0 hl0.out ?_))
  refine (toFloat32S_ok [.slice p1 (List.length D1) q1] D1 _ r1 hb1).mono ?_
  rintro e w3 ⟨c3, b3, rfl, o3, nd3, lo3, e3⟩
  have m3 := s
  have sz3 := Ext.size e3
  have lt3 := Own.lt o3
  replace e0 := e0.trans (e3)
  replace s := Nat.le_trans s (Ext.size (e3))
  replace c0 := c0.ext (e3)
  replace o2 := o2.ext (e3)
  replace r0 := h0.ext e0
  replace r1 := h1.ext e0
  clear e3
  obtain ⟨N3, hN3⟩ : ∃ N, N = w3.heap.size := ⟨_, rfl⟩
  rw [← hN3] at sz3 lt3
  have s := Nat.le_of_eq hN3
  obtain ⟨p_c3, q_c3, rfl, hm_c3⟩ := rep_val o3.rep
  simp only [ofCs, Sh.agg, List.headD_cons, Bool.false_eq_true, if_false]
  go_wp2_with (first | ((with_reducible show wpList _ _ _ (Oper.mk _ (Op.load _ _) _ _ _ _ :: _) _ _); refine wl_ldAw (s := shPlan) (cs := cs0) (by first | rfl | (go_simp; done) | (go_simp; omega)) rfl rfl c0 hl0.out ?_))
  refine (spec_ok c2 D0 [.slice p_c3 (List.length D1) q_c3] D1 _ o2.rep o3.rep ).mono ?_
  rintro e w4 ⟨c4_0, b4_0, rfl, o4_0, nd4_0, lo4_0, e4⟩
  have hbr0 := res_bd D0 D1 hb0 hb1 
  have K := hid (fun y0 y1 W => impl_ok y0 D0 y1 D1 W)
  generalize res D0 D1 = r at *
  obtain ⟨R0, R1⟩ := r
  dsimp only at hbr0 o4_0
  have m4 := s
  have sz4 := Ext.size e4
  have lt4_0 := Own.lt o4_0
  replace e0 := e0.trans (e4)
  replace s := Nat.le_trans s (Ext.size (e4))
  replace c0 := c0.ext (e4)
  replace o2 := o2.ext (e4)
  replace o3 := o3.ext (e4)
  replace r0 := h0.ext e0
  replace r1 := h1.ext e0
  clear e4
  obtain ⟨N4, hN4⟩ : ∃ N, N = w4.heap.size := ⟨_, rfl⟩
  rw [← hN4] at sz4 lt4_0
  have s := Nat.le_of_eq hN4
  obtain ⟨p_c4_0, q_c4_0, rfl, hm_c4_0⟩ := rep_val o4_0.rep
  simp only [ofCs, Sh.agg, List.headD_cons, Bool.false_eq_true, if_false]
  go_wp2_with (first | ((with_reducible show wpList _ _ _ (Oper.mk _ (Op.load _ _) _ _ _ _ :: _) _ _); refine wl_ldAw (s := shPlan) (cs := cs0) (by first | rfl | (go_simp; done) | (go_simp; omega)) rfl rfl c0 hl0.out ?_))
  refine (toPlan_ok cs0 D0 _ r0 hb0).mono ?_
  rintro e w5 ⟨c5, b5, rfl, o5, nd5, lo5, e5⟩
  have m5 := s
  have sz5 := Ext.size e5
  have lt5 := Own.lt o5
  replace e0 := e0.trans (e5)
  replace s := Nat.le_trans s (Ext.size (e5))
  replace c0 := c0.ext (e5)
  replace o2 := o2.ext (e5)
  replace o3 := o3.ext (e5)
  replace o4_0 := o4_0.ext (e5)
  replace r0 := h0.ext e0
  replace r1 := h1.ext e0
  clear e5
  obtain ⟨N5, hN5⟩ : ∃ N, N = w5.heap.size := ⟨_, rfl⟩
  rw [← hN5] at sz5 lt5
  have s := Nat.le_of_eq hN5
  have hxc5 := hid o5.rep.size
  have hyc5 := hid o5.rep.one
  go_wp2_with (first | ((with_reducible show wpList _ _ _ (Oper.mk _ (Op.load _ _) _ _ _ _ :: _) _ _); refine wl_ldAw (s := shPlan) (cs := cs0) (by first | rfl | (go_simp; done) | (go_simp; omega)) rfl rfl c0 hl0.out ?_) | ((with_reducible show wpList _ _ _ (Oper.mk _ (Op.store _ _ _) _ _ _ _ :: _) _ _); refine wl_stA (s := shPlan) (cs := c5) rfl rfl rfl rfl (by first | exact heap_alloc_new _ _ | exact heap_alloc_old2 _ _ _) rfl hxc5.out hyc5.out (by decide) ?_; intro wc6 cx6 ch6; have E6 := (Ext.of_chg1 ch6); have mc6 := s; replace e0 := e0.trans (E6); replace s := Nat.le_trans s (Ext.size (E6)); replace c0 := c0.ext (E6); replace o2 := o2.ext (E6); replace o3 := o3.ext (E6); replace o4_0 := o4_0.ext (E6); replace o5 := o5.ext (E6); replace r0 := h0.ext e0; replace r1 := h1.ext e0; have vl6 := Cs.blkLt cx6 (by rw [hxc5.out]; decide); obtain ⟨Nc6, hNc6⟩ : ∃ N, N = wc6.heap.size := ⟨_, rfl⟩; rw [← hNc6] at vl6; have s := Nat.le_of_eq hNc6; clear E6 ch6) | ((with_reducible show wpList _ _ _ (Oper.mk _ (Op.load _ _) _ _ _ _ :: _) _ _); refine wl_ldAw (s := shPlan) (cs := c5) (by first | rfl | (go_simp; done) | (go_simp; omega)) rfl rfl cx6 hxc5.out ?_))
  refine (toFloat32S_ok [.slice p1 (List.length D1) q1] D1 _ r1 hb1).mono ?_
  rintro e w7 ⟨c7, b7, rfl, o7, nd7, lo7, e7⟩
  have m7 := s
  have sz7 := Ext.size e7
  have lt7 := Own.lt o7
  replace e0 := e0.trans (e7)
  replace s := Nat.le_trans s (Ext.size (e7))
  replace c0 := c0.ext (e7)
  replace o2 := o2.ext (e7)
  replace o3 := o3.ext (e7)
  replace o4_0 := o4_0.ext (e7)
  replace o5 := o5.ext (e7)
  replace cx6 := cx6.ext (e7)
  replace r0 := h0.ext e0
  replace r1 := h1.ext e0
  clear e7
  obtain ⟨N7, hN7⟩ : ∃ N, N = w7.heap.size := ⟨_, rfl⟩
  rw [← hN7] at sz7 lt7
  have s := Nat.le_of_eq hN7
  obtain ⟨p_c7, q_c7, rfl, hm_c7⟩ := rep_val o7.rep
  simp only [ofCs, Sh.agg, List.headD_cons, Bool.false_eq_true, if_false]
  go_wp2_with (first | ((with_reducible show wpList _ _ _ (Oper.mk _ (Op.load _ _) _ _ _ _ :: _) _ _); refine wl_ldAw (s := shPlan) (cs := cs0) (by first | rfl | (go_simp; done) | (go_simp; omega)) rfl rfl c0 hl0.out ?_) | ((with_reducible show wpList _ _ _ (Oper.mk _ (Op.load _ _) _ _ _ _ :: _) _ _); refine wl_ldAw (s := shPlan) (cs := c5) (by first | rfl | (go_simp; done) | (go_simp; omega)) rfl rfl cx6 hxc5.out ?_))
  refine (K.out c5 [.slice p_c7 (List.length D1) q_c7] _ o5.rep o7.rep ).mono ?_
  rintro e w8 ⟨c8_0, b8_0, rfl, o8_0, nd8_0, lo8_0, e8⟩
  dsimp only at o8_0
  have m8 := s
  have sz8 := Ext.size e8
  have lt8_0 := Own.lt o8_0
  replace e0 := e0.trans (e8)
  replace s := Nat.le_trans s (Ext.size (e8))
  replace c0 := c0.ext (e8)
  replace o2 := o2.ext (e8)
  replace o3 := o3.ext (e8)
  replace o4_0 := o4_0.ext (e8)
  replace o5 := o5.ext (e8)
  replace cx6 := cx6.ext (e8)
  replace o7 := o7.ext (e8)
  replace r0 := h0.ext e0
  replace r1 := h1.ext e0
  clear e8
  obtain ⟨N8, hN8⟩ : ∃ N, N = w8.heap.size := ⟨_, rfl⟩
  rw [← hN8] at sz8 lt8_0
  have s := Nat.le_of_eq hN8
  obtain ⟨p_c8_0, q_c8_0, rfl, hm_c8_0⟩ := rep_val o8_0.rep
  simp only [ofCs, Sh.agg, List.headD_cons, Bool.false_eq_true, if_false]
  go_wp2_with (first | ((with_reducible show wpList _ _ _ (Oper.mk _ (Op.load _ _) _ _ _ _ :: _) _ _); refine wl_ldAw (s := shPlan) (cs := cs0) (by first | rfl | (go_simp; done) | (go_simp; omega)) rfl rfl c0 hl0.out ?_) | ((with_reducible show wpList _ _ _ (Oper.mk _ (Op.load _ _) _ _ _ _ :: _) _ _); refine wl_ldAw (s := shPlan) (cs := c5) (by first | rfl | (go_simp; done) | (go_simp; omega)) rfl rfl cx6 hxc5.out ?_))
  refine (eqFloat32S_ok [.slice p_c8_0 (List.length R0) q_c8_0] [.slice p_c4_0 (List.length R0) q_c4_0] R0 _ (o8_0.rep) (o4_0.rep) hbr0).mono ?_
  rintro e w9 ⟨rfl, e9⟩
  replace e0 := e0.trans (e9)
  replace s := Nat.le_trans s (Ext.size (e9))
  replace c0 := c0.ext (e9)
  replace o2 := o2.ext (e9)
  replace o3 := o3.ext (e9)
  replace o4_0 := o4_0.ext (e9)
  replace o5 := o5.ext (e9)
  replace cx6 := cx6.ext (e9)
  replace o7 := o7.ext (e9)
  replace o8_0 := o8_0.ext (e9)
  replace r0 := h0.ext e0
  replace r1 := h1.ext e0
  clear e9
  go_wp2_with (first | ((with_reducible show wpList _ _ _ (Oper.mk _ (Op.load _ _) _ _ _ _ :: _) _ _); refine wl_ldAw (s := shPlan) (cs := cs0) (by first | rfl | (go_simp; done) | (go_simp; omega)) rfl rfl c0 hl0.out ?_) | ((with_reducible show wpList _ _ _ (Oper.mk _ (Op.load _ _) _ _ _ _ :: _) _ _); refine wl_ldAw (s := shPlan) (cs := c5) (by first | rfl | (go_simp; done) | (go_simp; omega)) rfl rfl cx6 hxc5.out ?_))
  replace e0 := e0.trans ((Ext.drew _))
  replace s := Nat.le_trans s (Ext.size ((Ext.drew _)))
  replace c0 := c0.ext ((Ext.drew _))
  replace o2 := o2.ext ((Ext.drew _))
  replace o3 := o3.ext ((Ext.drew _))
  replace o4_0 := o4_0.ext ((Ext.drew _))
  replace o5 := o5.ext ((Ext.drew _))
  replace cx6 := cx6.ext ((Ext.drew _))
  replace o7 := o7.ext ((Ext.drew _))
  replace o8_0 := o8_0.ext ((Ext.drew _))
  replace r0 := h0.ext e0
  replace r1 := h1.ext e0
  obtain ⟨F10, hF10⟩ : ∃ F : Option Tmp → World → Value → Prop, F = fun d W u => (match d with | some 54 => ∃ cs', u = ofCs shPlan cs' ∧ Rep W shPlan cs' D0 | _ => True) := ⟨_, rfl⟩
  have HF10 := hid hF10
  clear hF10
  refine wp_region_xt 3 (F := F10) (by kernel_rfl) (by kernel_rfl) (by kernel_rfl) (by kernel_rfl) (by kernel_rfl) ?_
  intro wf hwf
  simp only [List.take_succ_cons, List.take_zero, List.drop_succ_cons, List.drop_zero]
  first | (refine x_ldA (s := shPlan) (cs := cs0) rfl rfl rfl c0 hl0.out ?_) | (refine x_ldA (s := shPlan) (cs := c5) rfl rfl rfl cx6 hxc5.out ?_)
  simp only [Act.put, ev_tmp, List.setIfInBounds_toArray, List.set_cons_succ, List.set_cons_zero, List.getD_cons_succ, List.getD_cons_zero]
  first | (refine x_ldA (s := shPlan) (cs := cs0) rfl rfl rfl c0 hl0.out ?_) | (refine x_ldA (s := shPlan) (cs := c5) rfl rfl rfl cx6 hxc5.out ?_)
  simp only [Act.put, ev_tmp, List.setIfInBounds_toArray, List.set_cons_succ, List.set_cons_zero, List.getD_cons_succ, List.getD_cons_zero]
  refine x_callf (f := 44) (args := #[ofCs shPlan cs0]) rfl rfl Try.func44 rfl (by kernel_rfl) ?_ ?_ ?_; (focus (simp [Act.eval]; done)); (focus (intro w1 hw1; exact ((toPlan_ok cs0 D0 w1 (r0.ext hw1) hb0).mono fun e w3 ⟨cs3, bs3, g1, g2, _, _, g3⟩ => ⟨_, g1, g3, by rw [HF10.out]; exact ⟨cs3, rfl, g2.rep⟩⟩))); rintro u w3 e3 e4 hu; simp only [HF10.out] at hu; obtain ⟨cz11, rfl, rz11⟩ := hu; replace rz11 := rz11.ext e4
  simp only [Act.put, ev_tmp, List.setIfInBounds_toArray, List.set_cons_succ, List.set_cons_zero, List.getD_cons_succ, List.getD_cons_zero]
  refine x_nil ?_
  replace e0 := e0.trans (hwf)
  replace s := Nat.le_trans s (Ext.size (hwf))
  replace c0 := c0.ext (hwf)
  replace o2 := o2.ext (hwf)
  replace o3 := o3.ext (hwf)
  replace o4_0 := o4_0.ext (hwf)
  replace o5 := o5.ext (hwf)
  replace cx6 := cx6.ext (hwf)
  replace o7 := o7.ext (hwf)
  replace o8_0 := o8_0.ext (hwf)
  replace r0 := h0.ext e0
  replace r1 := h1.ext e0
  clear hwf
  go_wp2_with fail
  refine (eqPlan_ok c5 cz11 D0 _ (o5.rep) (rz11) hb0).mono ?_
  rintro e w12 ⟨rfl, e12⟩
  replace e0 := e0.trans (e12)
  replace s := Nat.le_trans s (Ext.size (e12))
  replace c0 := c0.ext (e12)
  replace o2 := o2.ext (e12)
  replace o3 := o3.ext (e12)
  replace o4_0 := o4_0.ext (e12)
  replace o5 := o5.ext (e12)
  replace cx6 := cx6.ext (e12)
  replace o7 := o7.ext (e12)
  replace o8_0 := o8_0.ext (e12)
  replace rz11 := rz11.ext (e12)
  replace r0 := h0.ext e0
  replace r1 := h1.ext e0
  clear e12
  go_wp2_with (first | ((with_reducible show wpList _ _ _ (Oper.mk _ (Op.load _ _) _ _ _ _ :: _) _ _); refine wl_ldAw (s := shPlan) (cs := cs0) (by first | rfl | (go_simp; done) | (go_simp; omega)) rfl rfl c0 hl0.out ?_) | ((with_reducible show wpList _ _ _ (Oper.mk _ (Op.load _ _) _ _ _ _ :: _) _ _); refine wl_ldAw (s := shPlan) (cs := c5) (by first | rfl | (go_simp; done) | (go_simp; omega)) rfl rfl cx6 hxc5.out ?_))
  refine (toFloat32S_ok [.slice p1 (List.length D1) q1] D1 _ r1 hb1).mono ?_
  rintro e w13 ⟨c13, b13, rfl, o13, nd13, lo13, e13⟩
  have m13 := s
  have sz13 := Ext.size e13
  have lt13 := Own.lt o13
  replace e0 := e0.trans (e13)
  replace s := Nat.le_trans s (Ext.size (e13))
  replace c0 := c0.ext (e13)
  replace o2 := o2.ext (e13)
  replace o3 := o3.ext (e13)
  replace o4_0 := o4_0.ext (e13)
  replace o5 := o5.ext (e13)
  replace cx6 := cx6.ext (e13)
  replace o7 := o7.ext (e13)
  replace o8_0 := o8_0.ext (e13)
  replace rz11 := rz11.ext (e13)
  replace r0 := h0.ext e0
  replace r1 := h1.ext e0
  clear e13
  obtain ⟨N13, hN13⟩ : ∃ N, N = w13.heap.size := ⟨_, rfl⟩
  rw [← hN13] at sz13 lt13
  have s := Nat.le_of_eq hN13
  obtain ⟨p_c13, q_c13, rfl, hm_c13⟩ := rep_val o13.rep
  simp only [ofCs, Sh.agg, List.headD_cons, Bool.false_eq_true, if_false]
  go_wp2_with (first | ((with_reducible show wpList _ _ _ (Oper.mk _ (Op.load _ _) _ _ _ _ :: _) _ _); refine wl_ldAw (s := shPlan) (cs := cs0) (by first | rfl | (go_simp; done) | (go_simp; omega)) rfl rfl c0 hl0.out ?_) | ((with_reducible show wpList _ _ _ (Oper.mk _ (Op.load _ _) _ _ _ _ :: _) _ _); refine wl_ldAw (s := shPlan) (cs := c5) (by first | rfl | (go_simp; done) | (go_simp; omega)) rfl rfl cx6 hxc5.out ?_))
  refine (eqFloat32S_ok [.slice p_c7 (List.length D1) q_c7] [.slice p_c13 (List.length D1) q_c13] D1 _ (o7.rep) (o13.rep) hb1).mono ?_
  rintro e w14 ⟨rfl, e14⟩
  replace e0 := e0.trans (e14)
  replace s := Nat.le_trans s (Ext.size (e14))
  replace c0 := c0.ext (e14)
  replace o2 := o2.ext (e14)
  replace o3 := o3.ext (e14)
  replace o4_0 := o4_0.ext (e14)
  replace o5 := o5.ext (e14)
  replace cx6 := cx6.ext (e14)
  replace o7 := o7.ext (e14)
  replace o8_0 := o8_0.ext (e14)
  replace rz11 := rz11.ext (e14)
  replace o13 := o13.ext (e14)
  replace r0 := h0.ext e0
  replace r1 := h1.ext e0
  clear e14
  go_wp2_with (first | ((with_reducible show wpList _ _ _ (Oper.mk _ (Op.load _ _) _ _ _ _ :: _) _ _); refine wl_ldAw (s := shPlan) (cs := cs0) (by first | rfl | (go_simp; done) | (go_simp; omega)) rfl rfl c0 hl0.out ?_) | ((with_reducible show wpList _ _ _ (Oper.mk _ (Op.load _ _) _ _ _ _ :: _) _ _); refine wl_ldAw (s := shPlan) (cs := c5) (by first | rfl | (go_simp; done) | (go_simp; omega)) rfl rfl cx6 hxc5.out ?_))
  have mb15 := mkV_bd shPlan (by decide) D0 1
  refine (markPlan_ok c5 D0 b5 1 _ o5 nd5 (by omega) (by omega)).mono ?_
  rintro e w15 ⟨rfl, o15m, ch15⟩
  replace e0 := e0.chg ch15 fun b hb => by have := lo5 b hb; omega
  replace s := Nat.le_trans s (Chg.size ch15)
  replace c0 := Cs.chgB c0 ch15 (Cs.blkLt c0 (by rw [hl0.out]; decide)) (fun h => by have := lo5 _ h; have := lt5 _ h; omega)
  replace o2 := o2.chg ch15 (fun b hb h => by have := lo2 b hb; have := lt2 b hb; have := lo5 b h; have := lt5 b h; omega)
  replace o3 := o3.chg ch15 (fun b hb h => by have := lo3 b hb; have := lt3 b hb; have := lo5 b h; have := lt5 b h; omega)
  replace o4_0 := o4_0.chg ch15 (fun b hb h => by have := lo4_0 b hb; have := lt4_0 b hb; have := lo5 b h; have := lt5 b h; omega)
  replace cx6 := Cs.chgB cx6 ch15 (Cs.blkLt cx6 (by rw [hxc5.out]; decide)) (fun h => by have := lo5 _ h; have := lt5 _ h; omega)
  replace o7 := o7.chg ch15 (fun b hb h => by have := lo7 b hb; have := lt7 b hb; have := lo5 b h; have := lt5 b h; omega)
  replace o8_0 := o8_0.chg ch15 (fun b hb h => by have := lo8_0 b hb; have := lt8_0 b hb; have := lo5 b h; have := lt5 b h; omega)
  clear rz11
  replace o13 := o13.chg ch15 (fun b hb h => by have := lo13 b hb; have := lt13 b hb; have := lo5 b h; have := lt5 b h; omega)
  replace r0 := h0.ext e0
  replace r1 := h1.ext e0
  clear o5 ch15
  obtain ⟨k15, hk15⟩ : ∃ k, k = (mkV shPlan D0 1).2 := ⟨_, rfl⟩
  rw [← hk15] at mb15 ⊢
  have HK15 := hid hk15
  clear hk15
  go_wp2_with (first | ((with_reducible show wpList _ _ _ (Oper.mk _ (Op.load _ _) _ _ _ _ :: _) _ _); refine wl_ldAw (s := shPlan) (cs := cs0) (by first | rfl | (go_simp; done) | (go_simp; omega)) rfl rfl c0 hl0.out ?_) | ((with_reducible show wpList _ _ _ (Oper.mk _ (Op.load _ _) _ _ _ _ :: _) _ _); refine wl_ldAw (s := shPlan) (cs := c5) (by first | rfl | (go_simp; done) | (go_simp; omega)) rfl rfl cx6 hxc5.out ?_))
  have mb16 := mkV_bd (.sl .flt) (by decide) D1 k15
  refine (markFloat32S_ok [.slice p_c7 (List.length D1) q_c7] D1 b7 k15 _ o7 nd7 (by omega) (by omega)).mono ?_
  rintro e w16 ⟨rfl, o16m, ch16⟩
  replace e0 := e0.chg ch16 fun b hb => by have := lo7 b hb; omega
  replace s := Nat.le_trans s (Chg.size ch16)
  replace c0 := Cs.chgB c0 ch16 (Cs.blkLt c0 (by rw [hl0.out]; decide)) (fun h => by have := lo7 _ h; have := lt7 _ h; omega)
  replace o2 := o2.chg ch16 (fun b hb h => by have := lo2 b hb; have := lt2 b hb; have := lo7 b h; have := lt7 b h; omega)
  replace o3 := o3.chg ch16 (fun b hb h => by have := lo3 b hb; have := lt3 b hb; have := lo7 b h; have := lt7 b h; omega)
  replace o4_0 := o4_0.chg ch16 (fun b hb h => by have := lo4_0 b hb; have := lt4_0 b hb; have := lo7 b h; have := lt7 b h; omega)
  replace cx6 := Cs.chgB cx6 ch16 (Cs.blkLt cx6 (by rw [hxc5.out]; decide)) (fun h => by have := lo7 _ h; have := lt7 _ h; omega)
  replace o8_0 := o8_0.chg ch16 (fun b hb h => by have := lo8_0 b hb; have := lt8_0 b hb; have := lo7 b h; have := lt7 b h; omega)
  replace o13 := o13.chg ch16 (fun b hb h => by have := lo13 b hb; have := lt13 b hb; have := lo7 b h; have := lt7 b h; omega)
  replace o15m := o15m.chg ch16 (fun b hb h => by have := lo5 b hb; have := lt5 b hb; have := lo7 b h; have := lt7 b h; omega)
  replace r0 := h0.ext e0
  replace r1 := h1.ext e0
  clear o7 ch16
  obtain ⟨k16, hk16⟩ : ∃ k, k = (mkV (.sl .flt) D1 k15).2 := ⟨_, rfl⟩
  rw [← hk16] at mb16 ⊢
  have HK16 := hid hk16
  clear hk16
  go_wp2_with (first | ((with_reducible show wpList _ _ _ (Oper.mk _ (Op.load _ _) _ _ _ _ :: _) _ _); refine wl_ldAw (s := shPlan) (cs := cs0) (by first | rfl | (go_simp; done) | (go_simp; omega)) rfl rfl c0 hl0.out ?_) | ((with_reducible show wpList _ _ _ (Oper.mk _ (Op.load _ _) _ _ _ _ :: _) _ _); refine wl_ldAw (s := shPlan) (cs := c5) (by first | rfl | (go_simp; done) | (go_simp; omega)) rfl rfl cx6 hxc5.out ?_))
  refine (eqFloat32S_ok [.slice p_c8_0 (List.length R0) q_c8_0] [.slice p_c4_0 (List.length R0) q_c4_0] R0 _ (o8_0.rep) (o4_0.rep) hbr0).mono ?_
  rintro e w17 ⟨rfl, e17⟩
  replace e0 := e0.trans (e17)
  replace s := Nat.le_trans s (Ext.size (e17))
  replace c0 := c0.ext (e17)
  replace o2 := o2.ext (e17)
  replace o3 := o3.ext (e17)
  replace o4_0 := o4_0.ext (e17)
  replace cx6 := cx6.ext (e17)
  replace o8_0 := o8_0.ext (e17)
  replace o13 := o13.ext (e17)
  replace o15m := o15m.ext (e17)
  replace o16m := o16m.ext (e17)
  replace r0 := h0.ext e0
  replace r1 := h1.ext e0
  clear e17
  go_wp2_with (first | ((with_reducible show wpList _ _ _ (Oper.mk _ (Op.load _ _) _ _ _ _ :: _) _ _); refine wl_ldAw (s := shPlan) (cs := cs0) (by first | rfl | (go_simp; done) | (go_simp; omega)) rfl rfl c0 hl0.out ?_) | ((with_reducible show wpList _ _ _ (Oper.mk _ (Op.load _ _) _ _ _ _ :: _) _ _); refine wl_ldAw (s := shPlan) (cs := c5) (by first | rfl | (go_simp; done) | (go_simp; omega)) rfl rfl cx6 hxc5.out ?_))
  have mb18 := mkV_bd (.sl .flt) (by decide) R0 1
  refine (markFloat32S_ok [.slice p_c8_0 (List.length R0) q_c8_0] R0 b8_0 1 _ o8_0 nd8_0 (by omega) (by omega)).mono ?_
  rintro e w18 ⟨rfl, o18m, ch18⟩
  replace e0 := e0.chg ch18 fun b hb => by have := lo8_0 b hb; omega
  replace s := Nat.le_trans s (Chg.size ch18)
  replace c0 := Cs.chgB c0 ch18 (Cs.blkLt c0 (by rw [hl0.out]; decide)) (fun h => by have := lo8_0 _ h; have := lt8_0 _ h; omega)
  replace o2 := o2.chg ch18 (fun b hb h => by have := lo2 b hb; have := lt2 b hb; have := lo8_0 b h; have := lt8_0 b h; omega)
  replace o3 := o3.chg ch18 (fun b hb h => by have := lo3 b hb; have := lt3 b hb; have := lo8_0 b h; have := lt8_0 b h; omega)
  replace o4_0 := o4_0.chg ch18 (fun b hb h => by have := lo4_0 b hb; have := lt4_0 b hb; have := lo8_0 b h; have := lt8_0 b h; omega)
  replace cx6 := Cs.chgB cx6 ch18 (Cs.blkLt cx6 (by rw [hxc5.out]; decide)) (fun h => by have := lo8_0 _ h; have := lt8_0 _ h; omega)
  replace o13 := o13.chg ch18 (fun b hb h => by have := lo13 b hb; have := lt13 b hb; have := lo8_0 b h; have := lt8_0 b h; omega)
  replace o15m := o15m.chg ch18 (fun b hb h => by have := lo5 b hb; have := lt5 b hb; have := lo8_0 b h; have := lt8_0 b h; omega)
  replace o16m := o16m.chg ch18 (fun b hb h => by have := lo7 b hb; have := lt7 b hb; have := lo8_0 b h; have := lt8_0 b h; omega)
  replace r0 := h0.ext e0
  replace r1 := h1.ext e0
  clear o8_0 ch18
  obtain ⟨k18, hk18⟩ : ∃ k, k = (mkV (.sl .flt) R0 1).2 := ⟨_, rfl⟩
  rw [← hk18] at mb18 ⊢
  have HK18 := hid hk18
  clear hk18
  go_wp2_with (first | ((with_reducible show wpList _ _ _ (Oper.mk _ (Op.load _ _) _ _ _ _ :: _) _ _); refine wl_ldAw (s := shPlan) (cs := cs0) (by first | rfl | (go_simp; done) | (go_simp; omega)) rfl rfl c0 hl0.out ?_) | ((with_reducible show wpList _ _ _ (Oper.mk _ (Op.load _ _) _ _ _ _ :: _) _ _); refine wl_ldAw (s := shPlan) (cs := c5) (by first | rfl | (go_simp; done) | (go_simp; omega)) rfl rfl cx6 hxc5.out ?_))
  refine (heldFloat32S_ok [.slice p_c8_0 (List.length R0) q_c8_0] R0 1 _ o18m.rep (by omega) (by omega)).mono ?_
  rintro e w19 ⟨rfl, e19⟩
  replace e0 := e0.trans (e19)
  replace s := Nat.le_trans s (Ext.size (e19))
  replace c0 := c0.ext (e19)
  replace o2 := o2.ext (e19)
  replace o3 := o3.ext (e19)
  replace o4_0 := o4_0.ext (e19)
  replace cx6 := cx6.ext (e19)
  replace o13 := o13.ext (e19)
  replace o15m := o15m.ext (e19)
  replace o16m := o16m.ext (e19)
  replace o18m := o18m.ext (e19)
  replace r0 := h0.ext e0
  replace r1 := h1.ext e0
  clear e19
  rw [← HK18.out]
  go_wp2_with (first | ((with_reducible show wpList _ _ _ (Oper.mk _ (Op.load _ _) _ _ _ _ :: _) _ _); refine wl_ldAw (s := shPlan) (cs := cs0) (by first | rfl | (go_simp; done) | (go_simp; omega)) rfl rfl c0 hl0.out ?_) | ((with_reducible show wpList _ _ _ (Oper.mk _ (Op.load _ _) _ _ _ _ :: _) _ _); refine wl_ldAw (s := shPlan) (cs := c5) (by first | rfl | (go_simp; done) | (go_simp; omega)) rfl rfl cx6 hxc5.out ?_))
  refine (toPlan_ok cs0 D0 _ r0 hb0).mono ?_
  rintro e w20 ⟨c20, b20, rfl, o20, nd20, lo20, e20⟩
  have m20 := s
  have sz20 := Ext.size e20
  have lt20 := Own.lt o20
  replace e0 := e0.trans (e20)
  replace s := Nat.le_trans s (Ext.size (e20))
  replace c0 := c0.ext (e20)
  replace o2 := o2.ext (e20)
  replace o3 := o3.ext (e20)
  replace o4_0 := o4_0.ext (e20)
  replace cx6 := cx6.ext (e20)
  replace o13 := o13.ext (e20)
  replace o15m := o15m.ext (e20)
  replace o16m := o16m.ext (e20)
  replace o18m := o18m.ext (e20)
  replace r0 := h0.ext e0
  replace r1 := h1.ext e0
  clear e20
  obtain ⟨N20, hN20⟩ : ∃ N, N = w20.heap.size := ⟨_, rfl⟩
  rw [← hN20] at sz20 lt20
  have s := Nat.le_of_eq hN20
  have hxc20 := hid o20.rep.size
  have hyc20 := hid o20.rep.one
  go_wp2_with (first | ((with_reducible show wpList _ _ _ (Oper.mk _ (Op.load _ _) _ _ _ _ :: _) _ _); refine wl_ldAw (s := shPlan) (cs := cs0) (by first | rfl | (go_simp; done) | (go_simp; omega)) rfl rfl c0 hl0.out ?_) | ((with_reducible show wpList _ _ _ (Oper.mk _ (Op.load _ _) _ _ _ _ :: _) _ _); refine wl_ldAw (s := shPlan) (cs := c5) (by first | rfl | (go_simp; done) | (go_simp; omega)) rfl rfl cx6 hxc5.out ?_))
  refine (toFloat32S_ok [.slice p1 (List.length D1) q1] D1 _ r1 hb1).mono ?_
  rintro e w21 ⟨c21, b21, rfl, o21, nd21, lo21, e21⟩
  have m21 := s
  have sz21 := Ext.size e21
  have lt21 := Own.lt o21
  replace e0 := e0.trans (e21)
  replace s := Nat.le_trans s (Ext.size (e21))
  replace c0 := c0.ext (e21)
  replace o2 := o2.ext (e21)
  replace o3 := o3.ext (e21)
  replace o4_0 := o4_0.ext (e21)
  replace cx6 := cx6.ext (e21)
  replace o13 := o13.ext (e21)
  replace o15m := o15m.ext (e21)
  replace o16m := o16m.ext (e21)
  replace o18m := o18m.ext (e21)
  replace o20 := o20.ext (e21)
  replace r0 := h0.ext e0
  replace r1 := h1.ext e0
  clear e21
  obtain ⟨N21, hN21⟩ : ∃ N, N = w21.heap.size := ⟨_, rfl⟩
  rw [← hN21] at sz21 lt21
  have s := Nat.le_of_eq hN21
  obtain ⟨p_c21, q_c21, rfl, hm_c21⟩ := rep_val o21.rep
  simp only [ofCs, Sh.agg, List.headD_cons, Bool.false_eq_true, if_false]
  go_wp2_with (first | ((with_reducible show wpList _ _ _ (Oper.mk _ (Op.load _ _) _ _ _ _ :: _) _ _); refine wl_ldAw (s := shPlan) (cs := cs0) (by first | rfl | (go_simp; done) | (go_simp; omega)) rfl rfl c0 hl0.out ?_) | ((with_reducible show wpList _ _ _ (Oper.mk _ (Op.load _ _) _ _ _ _ :: _) _ _); refine wl_ldAw (s := shPlan) (cs := c5) (by first | rfl | (go_simp; done) | (go_simp; omega)) rfl rfl cx6 hxc5.out ?_))
  refine (K.out c20 [.slice p_c21 (List.length D1) q_c21] _ o20.rep o21.rep ).mono ?_
  rintro e w22 ⟨c22_0, b22_0, rfl, o22_0, nd22_0, lo22_0, e22⟩
  dsimp only at o22_0
  have m22 := s
  have sz22 := Ext.size e22
  have lt22_0 := Own.lt o22_0
  replace e0 := e0.trans (e22)
  replace s := Nat.le_trans s (Ext.size (e22))
  replace c0 := c0.ext (e22)
  replace o2 := o2.ext (e22)
  replace o3 := o3.ext (e22)
  replace o4_0 := o4_0.ext (e22)
  replace cx6 := cx6.ext (e22)
  replace o13 := o13.ext (e22)
  replace o15m := o15m.ext (e22)
  replace o16m := o16m.ext (e22)
  replace o18m := o18m.ext (e22)
  replace o20 := o20.ext (e22)
  replace o21 := o21.ext (e22)
  replace r0 := h0.ext e0
  replace r1 := h1.ext e0
  clear e22
  obtain ⟨N22, hN22⟩ : ∃ N, N = w22.heap.size := ⟨_, rfl⟩
  rw [← hN22] at sz22 lt22_0
  have s := Nat.le_of_eq hN22
  obtain ⟨p_c22_0, q_c22_0, rfl, hm_c22_0⟩ := rep_val o22_0.rep
  simp only [ofCs, Sh.agg, List.headD_cons, Bool.false_eq_true, if_false]
  go_wp2_with (first | ((with_reducible show wpList _ _ _ (Oper.mk _ (Op.load _ _) _ _ _ _ :: _) _ _); refine wl_ldAw (s := shPlan) (cs := cs0) (by first | rfl | (go_simp; done) | (go_simp; omega)) rfl rfl c0 hl0.out ?_) | ((with_reducible show wpList _ _ _ (Oper.mk _ (Op.load _ _) _ _ _ _ :: _) _ _); refine wl_ldAw (s := shPlan) (cs := c5) (by first | rfl | (go_simp; done) | (go_simp; omega)) rfl rfl cx6 hxc5.out ?_))
  refine (eqFloat32S_ok [.slice p_c22_0 (List.length R0) q_c22_0] [.slice p_c4_0 (List.length R0) q_c4_0] R0 _ (o22_0.rep) (o4_0.rep) hbr0).mono ?_
  rintro e w23 ⟨rfl, e23⟩
  replace e0 := e0.trans (e23)
  replace s := Nat.le_trans s (Ext.size (e23))
  replace c0 := c0.ext (e23)
  replace o2 := o2.ext (e23)
  replace o3 := o3.ext (e23)
  replace o4_0 := o4_0.ext (e23)
  replace cx6 := cx6.ext (e23)
  replace o13 := o13.ext (e23)
  replace o15m := o15m.ext (e23)
  replace o16m := o16m.ext (e23)
  replace o18m := o18m.ext (e23)
  replace o20 := o20.ext (e23)
  replace o21 := o21.ext (e23)
  replace o22_0 := o22_0.ext (e23)
  replace r0 := h0.ext e0
  replace r1 := h1.ext e0
  clear e23
  go_wp2_with (first | ((with_reducible show wpList _ _ _ (Oper.mk _ (Op.load _ _) _ _ _ _ :: _) _ _); refine wl_ldAw (s := shPlan) (cs := cs0) (by first | rfl | (go_simp; done) | (go_simp; omega)) rfl rfl c0 hl0.out ?_) | ((with_reducible show wpList _ _ _ (Oper.mk _ (Op.load _ _) _ _ _ _ :: _) _ _); refine wl_ldAw (s := shPlan) (cs := c5) (by first | rfl | (go_simp; done) | (go_simp; omega)) rfl rfl cx6 hxc5.out ?_))
  refine (heldFloat32S_ok [.slice p_c8_0 (List.length R0) q_c8_0] R0 1 _ o18m.rep (by omega) (by omega)).mono ?_
  rintro e w24 ⟨rfl, e24⟩
  replace e0 := e0.trans (e24)
  replace s := Nat.le_trans s (Ext.size (e24))
  replace c0 := c0.ext (e24)
  replace o2 := o2.ext (e24)
  replace o3 := o3.ext (e24)
  replace o4_0 := o4_0.ext (e24)
  replace cx6 := cx6.ext (e24)
  replace o13 := o13.ext (e24)
  replace o15m := o15m.ext (e24)
  replace o16m := o16m.ext (e24)
  replace o18m := o18m.ext (e24)
  replace o20 := o20.ext (e24)
  replace o21 := o21.ext (e24)
  replace o22_0 := o22_0.ext (e24)
  replace r0 := h0.ext e0
  replace r1 := h1.ext e0
  clear e24
  rw [← HK18.out]
  go_wp2
  go_ret
  exact ⟨rfl, e0⟩
end Go.Proofs.Ytangnigplachdaa.lRunPlan
