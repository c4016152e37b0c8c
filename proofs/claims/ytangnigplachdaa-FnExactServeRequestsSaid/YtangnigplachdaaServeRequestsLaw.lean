/- The law FnExactServeRequests answers true at every input. -/
import Derived.Test.YtangnigplachdaaSReq2
import Derived.Test.YtangnigplachdaaKb
import Derived.Test.YtangnigplachdaaKf
namespace Go.Proofs.Ytangnigplachdaa.lServeRequests
set_option linter.unusedSimpArgs false
set_option linter.unusedVariables false
open Go.RowKit

set_option maxRecDepth 100000 in
set_option maxHeartbeats 1000000 in
theorem law_any (cs0 : List Value) (D0 : Sh.T shModel) (cs1 : List Value) (D1 : Sh.T shRequestS) (a2 : Int) (a3 : Int) (a4 : Int) (w : World) (h0 : Rep w shModel cs0 D0) (h1 : Rep w shRequestS cs1 D1) (f0 : Fit shModel D0) (f1 : Fit shRequestS D1) (f2 : Fit .int a2) (f3 : Fit .int a3) (f4 : Fit .int a4) : Calls Try.prog 9 #[ofCs shModel cs0, ofCs shRequestS cs1, .int .i64 a2, .int .i64 a3, .int .i64 a4] w fun e w' => e = .returned (.bool true) ∧ Ext w w' := by
  have hl0 := hid h0.size
  have ho0 := hid h0.one
  have hl1 := hid h1.size
  have ho1 := hid h1.one
  obtain ⟨p1, q1, rfl, hm1⟩ := rep_val h1
  rw [show ofCs shRequestS [.slice p1 (List.length D1) q1] = .slice p1 (List.length D1) q1 from rfl]
  have e0 := Ext.refl w
  obtain ⟨N0, hN0⟩ : ∃ N0, N0 = w.heap.size := ⟨_, rfl⟩
  have s := Nat.le_of_eq hN0
  have r0 := h0
  have r1 := h1
  go_enter Try.func9, Try.ntmps9
  go_wp2_with (first | ((with_reducible show wpList _ _ _ (Oper.mk _ (Op.box _ _) _ _ _ _ :: _) _ _); refine wl_box (s := shModel) (cs := cs0) rfl rfl rfl hl0.out ho0.out ?_; intro b0 v0 g0 vv0 c0; have mb0 := Nat.le_trans s vv0; replace e0 := e0.trans (g0); replace s := Nat.le_trans s (Ext.size (g0)); replace r0 := h0.ext e0; replace r1 := h1.ext e0; have vl0 := Cs.blkLt c0 (by rw [hl0.out]; decide); obtain ⟨Nb0, hNb0⟩ : ∃ N, N = v0.heap.size := ⟨_, rfl⟩; rw [← hNb0] at vl0; have s := Nat.le_of_eq hNb0) | ((with_reducible show wpList _ _ _ (Oper.mk _ (Op.load _ _) _ _ _ _ :: _) _ _); refine wl_ldAw (s := shModel) (cs := cs0) (by first | rfl | (go_simp; done) | (go_simp; omega)) rfl rfl c0 hl0.out ?_))
  refine (szModel_ok cs0 D0 1048576 _ r0 (by omega) (by omega)).mono ?_
  rintro e w1 ⟨⟨s1, rfl, hs1⟩, e1⟩
  replace e0 := e0.trans (e1)
  replace s := Nat.le_trans s (Ext.size (e1))
  replace c0 := c0.ext (e1)
  replace r0 := h0.ext e0
  replace r1 := h1.ext e0
  clear e1
  by_cases hn1 : s1 < 0
  · go_wp2
    go_ret
    exact ⟨rfl, e0⟩
  have hb0 : tot shModel D0 ≤ 1048576 := by rcases hs1 with h | h; exact absurd h hn1; omega
  have hz1 : 0 ≤ s1 := by omega
  have ht1 : s1 ≤ 1048576 := by rcases hs1 with h | h; exact absurd h hn1; omega
  clear hs1
  go_wp2_with (first | ((with_reducible show wpList _ _ _ (Oper.mk _ (Op.load _ _) _ _ _ _ :: _) _ _); refine wl_ldAw (s := shModel) (cs := cs0) (by first | rfl | (go_simp; done) | (go_simp; omega)) rfl rfl c0 hl0.out ?_))
  refine (szRequestS_ok [.slice p1 (List.length D1) q1] D1 s1 _ r1 (by omega) (by omega)).mono ?_
  rintro e w2 ⟨⟨s2, rfl, hs2⟩, e2⟩
  replace e0 := e0.trans (e2)
  replace s := Nat.le_trans s (Ext.size (e2))
  replace c0 := c0.ext (e2)
  replace r0 := h0.ext e0
  replace r1 := h1.ext e0
  clear e2
  by_cases hn2 : s2 < 0
  · go_wp2
    go_ret
    exact ⟨rfl, e0⟩
  have hb1 : tot shRequestS D1 ≤ 1048576 := by rcases hs2 with h | h; exact absurd h hn2; omega
  have hz2 : 0 ≤ s2 := by omega
  have ht2 : s2 ≤ 1048576 := by rcases hs2 with h | h; exact absurd h hn2; omega
  clear hs2
  go_wp2_with (first | ((with_reducible show wpList _ _ _ (Oper.mk _ (Op.load _ _) _ _ _ _ :: _) _ _); refine wl_ldAw (s := shModel) (cs := cs0) (by first | rfl | (go_simp; done) | (go_simp; omega)) rfl rfl c0 hl0.out ?_))
  refine (toModel_ok cs0 D0 _ r0 hb0).mono ?_
  rintro e w3 ⟨c3, b3, rfl, o3, nd3, lo3, e3⟩
  have m3 := s
  have sz3 := Ext.size e3
  have lt3 := Own.lt o3
  replace e0 := e0.trans (e3)
  replace s := Nat.le_trans s (Ext.size (e3))
  replace c0 := c0.ext (e3)
  replace r0 := h0.ext e0
  replace r1 := h1.ext e0
  clear e3
  obtain ⟨N3, hN3⟩ : ∃ N, N = w3.heap.size := ⟨_, rfl⟩
  rw [← hN3] at sz3 lt3
  have s := Nat.le_of_eq hN3
  have hxc3 := hid o3.rep.size
  have hyc3 := hid o3.rep.one
  go_wp2_with (first | ((with_reducible show wpList _ _ _ (Oper.mk _ (Op.load _ _) _ _ _ _ :: _) _ _); refine wl_ldAw (s := shModel) (cs := cs0) (by first | rfl | (go_simp; done) | (go_simp; omega)) rfl rfl c0 hl0.out ?_))
  refine (toRequestS_ok [.slice p1 (List.length D1) q1] D1 _ r1 hb1).mono ?_
  rintro e w4 ⟨c4, b4, rfl, o4, nd4, lo4, e4⟩
  have m4 := s
  have sz4 := Ext.size e4
  have lt4 := Own.lt o4
  replace e0 := e0.trans (e4)
  replace s := Nat.le_trans s (Ext.size (e4))
  replace c0 := c0.ext (e4)
  replace o3 := o3.ext (e4)
  replace r0 := h0.ext e0
  replace r1 := h1.ext e0
  clear e4
  obtain ⟨N4, hN4⟩ : ∃ N, N = w4.heap.size := ⟨_, rfl⟩
  rw [← hN4] at sz4 lt4
  have s := Nat.le_of_eq hN4
  obtain ⟨p_c4, q_c4, rfl, hm_c4⟩ := rep_val o4.rep
  simp only [ofCs, Sh.agg, List.headD_cons, Bool.false_eq_true, if_false]
  go_wp2_with (first | ((with_reducible show wpList _ _ _ (Oper.mk _ (Op.load _ _) _ _ _ _ :: _) _ _); refine wl_ldAw (s := shModel) (cs := cs0) (by first | rfl | (go_simp; done) | (go_simp; omega)) rfl rfl c0 hl0.out ?_))
  refine (spec_ok c3 D0 [.slice p_c4 (List.length D1) q_c4] D1 a2 a3 a4 _ o3.rep o4.rep f0 f1 f2 f3 f4).mono ?_
  rintro e w5 ⟨c5_0, b5_0, rfl, o5_0, nd5_0, lo5_0, e5⟩
  have hbr0 := res_bd D0 D1 a2 a3 a4 hb0 hb1 f0 f1 f2 f3 f4
  have K := hid (fun y0 y1 W => impl_ok y0 D0 y1 D1 a2 a3 a4 W)
  generalize res D0 D1 a2 a3 a4 = r at *
  obtain ⟨R0, R1⟩ := r
  dsimp only at hbr0 o5_0
  have m5 := s
  have sz5 := Ext.size e5
  have lt5_0 := Own.lt o5_0
  replace e0 := e0.trans (e5)
  replace s := Nat.le_trans s (Ext.size (e5))
  replace c0 := c0.ext (e5)
  replace o3 := o3.ext (e5)
  replace o4 := o4.ext (e5)
  replace r0 := h0.ext e0
  replace r1 := h1.ext e0
  clear e5
  obtain ⟨N5, hN5⟩ : ∃ N, N = w5.heap.size := ⟨_, rfl⟩
  rw [← hN5] at sz5 lt5_0
  have s := Nat.le_of_eq hN5
  obtain ⟨p_c5_0, q_c5_0, rfl, hm_c5_0⟩ := rep_val o5_0.rep
  simp only [ofCs, Sh.agg, List.headD_cons, Bool.false_eq_true, if_false]
  go_wp2_with (first | ((with_reducible show wpList _ _ _ (Oper.mk _ (Op.load _ _) _ _ _ _ :: _) _ _); refine wl_ldAw (s := shModel) (cs := cs0) (by first | rfl | (go_simp; done) | (go_simp; omega)) rfl rfl c0 hl0.out ?_))
  refine (toModel_ok cs0 D0 _ r0 hb0).mono ?_
  rintro e w6 ⟨c6, b6, rfl, o6, nd6, lo6, e6⟩
  have m6 := s
  have sz6 := Ext.size e6
  have lt6 := Own.lt o6
  replace e0 := e0.trans (e6)
  replace s := Nat.le_trans s (Ext.size (e6))
  replace c0 := c0.ext (e6)
  replace o3 := o3.ext (e6)
  replace o4 := o4.ext (e6)
  replace o5_0 := o5_0.ext (e6)
  replace r0 := h0.ext e0
  replace r1 := h1.ext e0
  clear e6
  obtain ⟨N6, hN6⟩ : ∃ N, N = w6.heap.size := ⟨_, rfl⟩
  rw [← hN6] at sz6 lt6
  have s := Nat.le_of_eq hN6
  have hxc6 := hid o6.rep.size
  have hyc6 := hid o6.rep.one
  go_wp2_with (first | ((with_reducible show wpList _ _ _ (Oper.mk _ (Op.load _ _) _ _ _ _ :: _) _ _); refine wl_ldAw (s := shModel) (cs := cs0) (by first | rfl | (go_simp; done) | (go_simp; omega)) rfl rfl c0 hl0.out ?_) | ((with_reducible show wpList _ _ _ (Oper.mk _ (Op.store _ _ _) _ _ _ _ :: _) _ _); refine wl_stA (s := shModel) (cs := c6) rfl rfl rfl rfl (by first | exact heap_alloc_new _ _ | exact heap_alloc_old2 _ _ _) rfl hxc6.out hyc6.out (by decide) ?_; intro wc7 cx7 ch7; have E7 := (Ext.of_chg1 ch7); have mc7 := s; replace e0 := e0.trans (E7); replace s := Nat.le_trans s (Ext.size (E7)); replace c0 := c0.ext (E7); replace o3 := o3.ext (E7); replace o4 := o4.ext (E7); replace o5_0 := o5_0.ext (E7); replace o6 := o6.ext (E7); replace r0 := h0.ext e0; replace r1 := h1.ext e0; have vl7 := Cs.blkLt cx7 (by rw [hxc6.out]; decide); obtain ⟨Nc7, hNc7⟩ : ∃ N, N = wc7.heap.size := ⟨_, rfl⟩; rw [← hNc7] at vl7; have s := Nat.le_of_eq hNc7; clear E7 ch7) | ((with_reducible show wpList _ _ _ (Oper.mk _ (Op.load _ _) _ _ _ _ :: _) _ _); refine wl_ldAw (s := shModel) (cs := c6) (by first | rfl | (go_simp; done) | (go_simp; omega)) rfl rfl cx7 hxc6.out ?_))
  refine (toRequestS_ok [.slice p1 (List.length D1) q1] D1 _ r1 hb1).mono ?_
  rintro e w8 ⟨c8, b8, rfl, o8, nd8, lo8, e8⟩
  have m8 := s
  have sz8 := Ext.size e8
  have lt8 := Own.lt o8
  replace e0 := e0.trans (e8)
  replace s := Nat.le_trans s (Ext.size (e8))
  replace c0 := c0.ext (e8)
  replace o3 := o3.ext (e8)
  replace o4 := o4.ext (e8)
  replace o5_0 := o5_0.ext (e8)
  replace o6 := o6.ext (e8)
  replace cx7 := cx7.ext (e8)
  replace r0 := h0.ext e0
  replace r1 := h1.ext e0
  clear e8
  obtain ⟨N8, hN8⟩ : ∃ N, N = w8.heap.size := ⟨_, rfl⟩
  rw [← hN8] at sz8 lt8
  have s := Nat.le_of_eq hN8
  obtain ⟨p_c8, q_c8, rfl, hm_c8⟩ := rep_val o8.rep
  simp only [ofCs, Sh.agg, List.headD_cons, Bool.false_eq_true, if_false]
  go_wp2_with (first | ((with_reducible show wpList _ _ _ (Oper.mk _ (Op.load _ _) _ _ _ _ :: _) _ _); refine wl_ldAw (s := shModel) (cs := cs0) (by first | rfl | (go_simp; done) | (go_simp; omega)) rfl rfl c0 hl0.out ?_) | ((with_reducible show wpList _ _ _ (Oper.mk _ (Op.load _ _) _ _ _ _ :: _) _ _); refine wl_ldAw (s := shModel) (cs := c6) (by first | rfl | (go_simp; done) | (go_simp; omega)) rfl rfl cx7 hxc6.out ?_))
  refine (K.out c6 [.slice p_c8 (List.length D1) q_c8] _ o6.rep o8.rep f0 f1 f2 f3 f4).mono ?_
  rintro e w9 ⟨c9_0, b9_0, rfl, o9_0, nd9_0, lo9_0, e9⟩
  dsimp only at o9_0
  have m9 := s
  have sz9 := Ext.size e9
  have lt9_0 := Own.lt o9_0
  replace e0 := e0.trans (e9)
  replace s := Nat.le_trans s (Ext.size (e9))
  replace c0 := c0.ext (e9)
  replace o3 := o3.ext (e9)
  replace o4 := o4.ext (e9)
  replace o5_0 := o5_0.ext (e9)
  replace o6 := o6.ext (e9)
  replace cx7 := cx7.ext (e9)
  replace o8 := o8.ext (e9)
  replace r0 := h0.ext e0
  replace r1 := h1.ext e0
  clear e9
  obtain ⟨N9, hN9⟩ : ∃ N, N = w9.heap.size := ⟨_, rfl⟩
  rw [← hN9] at sz9 lt9_0
  have s := Nat.le_of_eq hN9
  obtain ⟨p_c9_0, q_c9_0, rfl, hm_c9_0⟩ := rep_val o9_0.rep
  simp only [ofCs, Sh.agg, List.headD_cons, Bool.false_eq_true, if_false]
  go_wp2_with (first | ((with_reducible show wpList _ _ _ (Oper.mk _ (Op.load _ _) _ _ _ _ :: _) _ _); refine wl_ldAw (s := shModel) (cs := cs0) (by first | rfl | (go_simp; done) | (go_simp; omega)) rfl rfl c0 hl0.out ?_) | ((with_reducible show wpList _ _ _ (Oper.mk _ (Op.load _ _) _ _ _ _ :: _) _ _); refine wl_ldAw (s := shModel) (cs := c6) (by first | rfl | (go_simp; done) | (go_simp; omega)) rfl rfl cx7 hxc6.out ?_))
  refine (eqAnswerS_ok [.slice p_c9_0 (List.length R0) q_c9_0] [.slice p_c5_0 (List.length R0) q_c5_0] R0 _ (o9_0.rep) (o5_0.rep) hbr0).mono ?_
  rintro e w10 ⟨rfl, e10⟩
  replace e0 := e0.trans (e10)
  replace s := Nat.le_trans s (Ext.size (e10))
  replace c0 := c0.ext (e10)
  replace o3 := o3.ext (e10)
  replace o4 := o4.ext (e10)
  replace o5_0 := o5_0.ext (e10)
  replace o6 := o6.ext (e10)
  replace cx7 := cx7.ext (e10)
  replace o8 := o8.ext (e10)
  replace o9_0 := o9_0.ext (e10)
  replace r0 := h0.ext e0
  replace r1 := h1.ext e0
  clear e10
  go_wp2_with (first | ((with_reducible show wpList _ _ _ (Oper.mk _ (Op.load _ _) _ _ _ _ :: _) _ _); refine wl_ldAw (s := shModel) (cs := cs0) (by first | rfl | (go_simp; done) | (go_simp; omega)) rfl rfl c0 hl0.out ?_) | ((with_reducible show wpList _ _ _ (Oper.mk _ (Op.load _ _) _ _ _ _ :: _) _ _); refine wl_ldAw (s := shModel) (cs := c6) (by first | rfl | (go_simp; done) | (go_simp; omega)) rfl rfl cx7 hxc6.out ?_))
  replace e0 := e0.trans ((Ext.drew _))
  replace s := Nat.le_trans s (Ext.size ((Ext.drew _)))
  replace c0 := c0.ext ((Ext.drew _))
  replace o3 := o3.ext ((Ext.drew _))
  replace o4 := o4.ext ((Ext.drew _))
  replace o5_0 := o5_0.ext ((Ext.drew _))
  replace o6 := o6.ext ((Ext.drew _))
  replace cx7 := cx7.ext ((Ext.drew _))
  replace o8 := o8.ext ((Ext.drew _))
  replace o9_0 := o9_0.ext ((Ext.drew _))
  replace r0 := h0.ext e0
  replace r1 := h1.ext e0
  obtain ⟨F11, hF11⟩ : ∃ F : Option Tmp → World → Value → Prop, F = fun d W u => (match d with | some 68 => ∃ cs', u = ofCs shModel cs' ∧ Rep W shModel cs' D0 | _ => True) := ⟨_, rfl⟩
  have HF11 := hid hF11
  clear hF11
  refine wp_region_xt 3 (F := F11) (by kernel_rfl) (by kernel_rfl) (by kernel_rfl) (by kernel_rfl) (by kernel_rfl) ?_
  intro wf hwf
  simp only [List.take_succ_cons, List.take_zero, List.drop_succ_cons, List.drop_zero]
  first | (refine x_ldA (s := shModel) (cs := cs0) rfl rfl rfl c0 hl0.out ?_) | (refine x_ldA (s := shModel) (cs := c6) rfl rfl rfl cx7 hxc6.out ?_)
  simp only [Act.put, ev_tmp, List.setIfInBounds_toArray, List.set_cons_succ, List.set_cons_zero, List.getD_cons_succ, List.getD_cons_zero]
  first | (refine x_ldA (s := shModel) (cs := cs0) rfl rfl rfl c0 hl0.out ?_) | (refine x_ldA (s := shModel) (cs := c6) rfl rfl rfl cx7 hxc6.out ?_)
  simp only [Act.put, ev_tmp, List.setIfInBounds_toArray, List.set_cons_succ, List.set_cons_zero, List.getD_cons_succ, List.getD_cons_zero]
  refine x_callf (f := 16) (args := #[ofCs shModel cs0]) rfl rfl Try.func16 rfl (by kernel_rfl) ?_ ?_ ?_; (focus (simp [Act.eval]; done)); (focus (intro w1 hw1; exact ((toModel_ok cs0 D0 w1 (r0.ext hw1) hb0).mono fun e w3 ⟨cs3, bs3, g1, g2, _, _, g3⟩ => ⟨_, g1, g3, by rw [HF11.out]; exact ⟨cs3, rfl, g2.rep⟩⟩))); rintro u w3 e3 e4 hu; simp only [HF11.out] at hu; obtain ⟨cz12, rfl, rz12⟩ := hu; replace rz12 := rz12.ext e4
  simp only [Act.put, ev_tmp, List.setIfInBounds_toArray, List.set_cons_succ, List.set_cons_zero, List.getD_cons_succ, List.getD_cons_zero]
  refine x_nil ?_
  replace e0 := e0.trans (hwf)
  replace s := Nat.le_trans s (Ext.size (hwf))
  replace c0 := c0.ext (hwf)
  replace o3 := o3.ext (hwf)
  replace o4 := o4.ext (hwf)
  replace o5_0 := o5_0.ext (hwf)
  replace o6 := o6.ext (hwf)
  replace cx7 := cx7.ext (hwf)
  replace o8 := o8.ext (hwf)
  replace o9_0 := o9_0.ext (hwf)
  replace r0 := h0.ext e0
  replace r1 := h1.ext e0
  clear hwf
  go_wp2_with fail
  refine (eqModel_ok c6 cz12 D0 _ (o6.rep) (rz12) hb0).mono ?_
  rintro e w13 ⟨rfl, e13⟩
  replace e0 := e0.trans (e13)
  replace s := Nat.le_trans s (Ext.size (e13))
  replace c0 := c0.ext (e13)
  replace o3 := o3.ext (e13)
  replace o4 := o4.ext (e13)
  replace o5_0 := o5_0.ext (e13)
  replace o6 := o6.ext (e13)
  replace cx7 := cx7.ext (e13)
  replace o8 := o8.ext (e13)
  replace o9_0 := o9_0.ext (e13)
  replace rz12 := rz12.ext (e13)
  replace r0 := h0.ext e0
  replace r1 := h1.ext e0
  clear e13
  go_wp2_with (first | ((with_reducible show wpList _ _ _ (Oper.mk _ (Op.load _ _) _ _ _ _ :: _) _ _); refine wl_ldAw (s := shModel) (cs := cs0) (by first | rfl | (go_simp; done) | (go_simp; omega)) rfl rfl c0 hl0.out ?_) | ((with_reducible show wpList _ _ _ (Oper.mk _ (Op.load _ _) _ _ _ _ :: _) _ _); refine wl_ldAw (s := shModel) (cs := c6) (by first | rfl | (go_simp; done) | (go_simp; omega)) rfl rfl cx7 hxc6.out ?_))
  refine (toRequestS_ok [.slice p1 (List.length D1) q1] D1 _ r1 hb1).mono ?_
  rintro e w14 ⟨c14, b14, rfl, o14, nd14, lo14, e14⟩
  have m14 := s
  have sz14 := Ext.size e14
  have lt14 := Own.lt o14
  replace e0 := e0.trans (e14)
  replace s := Nat.le_trans s (Ext.size (e14))
  replace c0 := c0.ext (e14)
  replace o3 := o3.ext (e14)
  replace o4 := o4.ext (e14)
  replace o5_0 := o5_0.ext (e14)
  replace o6 := o6.ext (e14)
  replace cx7 := cx7.ext (e14)
  replace o8 := o8.ext (e14)
  replace o9_0 := o9_0.ext (e14)
  replace rz12 := rz12.ext (e14)
  replace r0 := h0.ext e0
  replace r1 := h1.ext e0
  clear e14
  obtain ⟨N14, hN14⟩ : ∃ N, N = w14.heap.size := ⟨_, rfl⟩
  rw [← hN14] at sz14 lt14
  have s := Nat.le_of_eq hN14
  obtain ⟨p_c14, q_c14, rfl, hm_c14⟩ := rep_val o14.rep
  simp only [ofCs, Sh.agg, List.headD_cons, Bool.false_eq_true, if_false]
  go_wp2_with (first | ((with_reducible show wpList _ _ _ (Oper.mk _ (Op.load _ _) _ _ _ _ :: _) _ _); refine wl_ldAw (s := shModel) (cs := cs0) (by first | rfl | (go_simp; done) | (go_simp; omega)) rfl rfl c0 hl0.out ?_) | ((with_reducible show wpList _ _ _ (Oper.mk _ (Op.load _ _) _ _ _ _ :: _) _ _); refine wl_ldAw (s := shModel) (cs := c6) (by first | rfl | (go_simp; done) | (go_simp; omega)) rfl rfl cx7 hxc6.out ?_))
  refine (eqRequestS_ok [.slice p_c8 (List.length D1) q_c8] [.slice p_c14 (List.length D1) q_c14] D1 _ (o8.rep) (o14.rep) hb1).mono ?_
  rintro e w15 ⟨rfl, e15⟩
  replace e0 := e0.trans (e15)
  replace s := Nat.le_trans s (Ext.size (e15))
  replace c0 := c0.ext (e15)
  replace o3 := o3.ext (e15)
  replace o4 := o4.ext (e15)
  replace o5_0 := o5_0.ext (e15)
  replace o6 := o6.ext (e15)
  replace cx7 := cx7.ext (e15)
  replace o8 := o8.ext (e15)
  replace o9_0 := o9_0.ext (e15)
  replace rz12 := rz12.ext (e15)
  replace o14 := o14.ext (e15)
  replace r0 := h0.ext e0
  replace r1 := h1.ext e0
  clear e15
  go_wp2_with (first | ((with_reducible show wpList _ _ _ (Oper.mk _ (Op.load _ _) _ _ _ _ :: _) _ _); refine wl_ldAw (s := shModel) (cs := cs0) (by first | rfl | (go_simp; done) | (go_simp; omega)) rfl rfl c0 hl0.out ?_) | ((with_reducible show wpList _ _ _ (Oper.mk _ (Op.load _ _) _ _ _ _ :: _) _ _); refine wl_ldAw (s := shModel) (cs := c6) (by first | rfl | (go_simp; done) | (go_simp; omega)) rfl rfl cx7 hxc6.out ?_))
  have mb16 := mkV_bd shModel (by decide) D0 1
  refine (markModel_ok c6 D0 b6 1 _ o6 nd6 (by omega) (by omega)).mono ?_
  rintro e w16 ⟨rfl, o16m, ch16⟩
  replace e0 := e0.chg ch16 fun b hb => by have := lo6 b hb; omega
  replace s := Nat.le_trans s (Chg.size ch16)
  replace c0 := Cs.chgB c0 ch16 (Cs.blkLt c0 (by rw [hl0.out]; decide)) (fun h => by have := lo6 _ h; have := lt6 _ h; omega)
  replace o3 := o3.chg ch16 (fun b hb h => by have := lo3 b hb; have := lt3 b hb; have := lo6 b h; have := lt6 b h; omega)
  replace o4 := o4.chg ch16 (fun b hb h => by have := lo4 b hb; have := lt4 b hb; have := lo6 b h; have := lt6 b h; omega)
  replace o5_0 := o5_0.chg ch16 (fun b hb h => by have := lo5_0 b hb; have := lt5_0 b hb; have := lo6 b h; have := lt6 b h; omega)
  replace cx7 := Cs.chgB cx7 ch16 (Cs.blkLt cx7 (by rw [hxc6.out]; decide)) (fun h => by have := lo6 _ h; have := lt6 _ h; omega)
  replace o8 := o8.chg ch16 (fun b hb h => by have := lo8 b hb; have := lt8 b hb; have := lo6 b h; have := lt6 b h; omega)
  replace o9_0 := o9_0.chg ch16 (fun b hb h => by have := lo9_0 b hb; have := lt9_0 b hb; have := lo6 b h; have := lt6 b h; omega)
  clear rz12
  replace o14 := o14.chg ch16 (fun b hb h => by have := lo14 b hb; have := lt14 b hb; have := lo6 b h; have := lt6 b h; omega)
  replace r0 := h0.ext e0
  replace r1 := h1.ext e0
  clear o6 ch16
  obtain ⟨k16, hk16⟩ : ∃ k, k = (mkV shModel D0 1).2 := ⟨_, rfl⟩
  rw [← hk16] at mb16 ⊢
  have HK16 := hid hk16
  clear hk16
  go_wp2_with (first | ((with_reducible show wpList _ _ _ (Oper.mk _ (Op.load _ _) _ _ _ _ :: _) _ _); refine wl_ldAw (s := shModel) (cs := cs0) (by first | rfl | (go_simp; done) | (go_simp; omega)) rfl rfl c0 hl0.out ?_) | ((with_reducible show wpList _ _ _ (Oper.mk _ (Op.load _ _) _ _ _ _ :: _) _ _); refine wl_ldAw (s := shModel) (cs := c6) (by first | rfl | (go_simp; done) | (go_simp; omega)) rfl rfl cx7 hxc6.out ?_))
  have mb17 := mkV_bd shRequestS (by decide) D1 k16
  refine (markRequestS_ok [.slice p_c8 (List.length D1) q_c8] D1 b8 k16 _ o8 nd8 (by omega) (by omega)).mono ?_
  rintro e w17 ⟨rfl, o17m, ch17⟩
  replace e0 := e0.chg ch17 fun b hb => by have := lo8 b hb; omega
  replace s := Nat.le_trans s (Chg.size ch17)
  replace c0 := Cs.chgB c0 ch17 (Cs.blkLt c0 (by rw [hl0.out]; decide)) (fun h => by have := lo8 _ h; have := lt8 _ h; omega)
  replace o3 := o3.chg ch17 (fun b hb h => by have := lo3 b hb; have := lt3 b hb; have := lo8 b h; have := lt8 b h; omega)
  replace o4 := o4.chg ch17 (fun b hb h => by have := lo4 b hb; have := lt4 b hb; have := lo8 b h; have := lt8 b h; omega)
  replace o5_0 := o5_0.chg ch17 (fun b hb h => by have := lo5_0 b hb; have := lt5_0 b hb; have := lo8 b h; have := lt8 b h; omega)
  replace cx7 := Cs.chgB cx7 ch17 (Cs.blkLt cx7 (by rw [hxc6.out]; decide)) (fun h => by have := lo8 _ h; have := lt8 _ h; omega)
  replace o9_0 := o9_0.chg ch17 (fun b hb h => by have := lo9_0 b hb; have := lt9_0 b hb; have := lo8 b h; have := lt8 b h; omega)
  replace o14 := o14.chg ch17 (fun b hb h => by have := lo14 b hb; have := lt14 b hb; have := lo8 b h; have := lt8 b h; omega)
  replace o16m := o16m.chg ch17 (fun b hb h => by have := lo6 b hb; have := lt6 b hb; have := lo8 b h; have := lt8 b h; omega)
  replace r0 := h0.ext e0
  replace r1 := h1.ext e0
  clear o8 ch17
  obtain ⟨k17, hk17⟩ : ∃ k, k = (mkV shRequestS D1 k16).2 := ⟨_, rfl⟩
  rw [← hk17] at mb17 ⊢
  have HK17 := hid hk17
  clear hk17
  go_wp2_with (first | ((with_reducible show wpList _ _ _ (Oper.mk _ (Op.load _ _) _ _ _ _ :: _) _ _); refine wl_ldAw (s := shModel) (cs := cs0) (by first | rfl | (go_simp; done) | (go_simp; omega)) rfl rfl c0 hl0.out ?_) | ((with_reducible show wpList _ _ _ (Oper.mk _ (Op.load _ _) _ _ _ _ :: _) _ _); refine wl_ldAw (s := shModel) (cs := c6) (by first | rfl | (go_simp; done) | (go_simp; omega)) rfl rfl cx7 hxc6.out ?_))
  refine (eqAnswerS_ok [.slice p_c9_0 (List.length R0) q_c9_0] [.slice p_c5_0 (List.length R0) q_c5_0] R0 _ (o9_0.rep) (o5_0.rep) hbr0).mono ?_
  rintro e w18 ⟨rfl, e18⟩
  replace e0 := e0.trans (e18)
  replace s := Nat.le_trans s (Ext.size (e18))
  replace c0 := c0.ext (e18)
  replace o3 := o3.ext (e18)
  replace o4 := o4.ext (e18)
  replace o5_0 := o5_0.ext (e18)
  replace cx7 := cx7.ext (e18)
  replace o9_0 := o9_0.ext (e18)
  replace o14 := o14.ext (e18)
  replace o16m := o16m.ext (e18)
  replace o17m := o17m.ext (e18)
  replace r0 := h0.ext e0
  replace r1 := h1.ext e0
  clear e18
  go_wp2_with (first | ((with_reducible show wpList _ _ _ (Oper.mk _ (Op.load _ _) _ _ _ _ :: _) _ _); refine wl_ldAw (s := shModel) (cs := cs0) (by first | rfl | (go_simp; done) | (go_simp; omega)) rfl rfl c0 hl0.out ?_) | ((with_reducible show wpList _ _ _ (Oper.mk _ (Op.load _ _) _ _ _ _ :: _) _ _); refine wl_ldAw (s := shModel) (cs := c6) (by first | rfl | (go_simp; done) | (go_simp; omega)) rfl rfl cx7 hxc6.out ?_))
  have mb19 := mkV_bd shAnswerS (by decide) R0 1
  refine (markAnswerS_ok [.slice p_c9_0 (List.length R0) q_c9_0] R0 b9_0 1 _ o9_0 nd9_0 (by omega) (by omega)).mono ?_
  rintro e w19 ⟨rfl, o19m, ch19⟩
  replace e0 := e0.chg ch19 fun b hb => by have := lo9_0 b hb; omega
  replace s := Nat.le_trans s (Chg.size ch19)
  replace c0 := Cs.chgB c0 ch19 (Cs.blkLt c0 (by rw [hl0.out]; decide)) (fun h => by have := lo9_0 _ h; have := lt9_0 _ h; omega)
  replace o3 := o3.chg ch19 (fun b hb h => by have := lo3 b hb; have := lt3 b hb; have := lo9_0 b h; have := lt9_0 b h; omega)
  replace o4 := o4.chg ch19 (fun b hb h => by have := lo4 b hb; have := lt4 b hb; have := lo9_0 b h; have := lt9_0 b h; omega)
  replace o5_0 := o5_0.chg ch19 (fun b hb h => by have := lo5_0 b hb; have := lt5_0 b hb; have := lo9_0 b h; have := lt9_0 b h; omega)
  replace cx7 := Cs.chgB cx7 ch19 (Cs.blkLt cx7 (by rw [hxc6.out]; decide)) (fun h => by have := lo9_0 _ h; have := lt9_0 _ h; omega)
  replace o14 := o14.chg ch19 (fun b hb h => by have := lo14 b hb; have := lt14 b hb; have := lo9_0 b h; have := lt9_0 b h; omega)
  replace o16m := o16m.chg ch19 (fun b hb h => by have := lo6 b hb; have := lt6 b hb; have := lo9_0 b h; have := lt9_0 b h; omega)
  replace o17m := o17m.chg ch19 (fun b hb h => by have := lo8 b hb; have := lt8 b hb; have := lo9_0 b h; have := lt9_0 b h; omega)
  replace r0 := h0.ext e0
  replace r1 := h1.ext e0
  clear o9_0 ch19
  obtain ⟨k19, hk19⟩ : ∃ k, k = (mkV shAnswerS R0 1).2 := ⟨_, rfl⟩
  rw [← hk19] at mb19 ⊢
  have HK19 := hid hk19
  clear hk19
  go_wp2_with (first | ((with_reducible show wpList _ _ _ (Oper.mk _ (Op.load _ _) _ _ _ _ :: _) _ _); refine wl_ldAw (s := shModel) (cs := cs0) (by first | rfl | (go_simp; done) | (go_simp; omega)) rfl rfl c0 hl0.out ?_) | ((with_reducible show wpList _ _ _ (Oper.mk _ (Op.load _ _) _ _ _ _ :: _) _ _); refine wl_ldAw (s := shModel) (cs := c6) (by first | rfl | (go_simp; done) | (go_simp; omega)) rfl rfl cx7 hxc6.out ?_))
  refine (heldAnswerS_ok [.slice p_c9_0 (List.length R0) q_c9_0] R0 1 _ o19m.rep (by omega) (by omega)).mono ?_
  rintro e w20 ⟨rfl, e20⟩
  replace e0 := e0.trans (e20)
  replace s := Nat.le_trans s (Ext.size (e20))
  replace c0 := c0.ext (e20)
  replace o3 := o3.ext (e20)
  replace o4 := o4.ext (e20)
  replace o5_0 := o5_0.ext (e20)
  replace cx7 := cx7.ext (e20)
  replace o14 := o14.ext (e20)
  replace o16m := o16m.ext (e20)
  replace o17m := o17m.ext (e20)
  replace o19m := o19m.ext (e20)
  replace r0 := h0.ext e0
  replace r1 := h1.ext e0
  clear e20
  rw [← HK19.out]
  go_wp2_with (first | ((with_reducible show wpList _ _ _ (Oper.mk _ (Op.load _ _) _ _ _ _ :: _) _ _); refine wl_ldAw (s := shModel) (cs := cs0) (by first | rfl | (go_simp; done) | (go_simp; omega)) rfl rfl c0 hl0.out ?_) | ((with_reducible show wpList _ _ _ (Oper.mk _ (Op.load _ _) _ _ _ _ :: _) _ _); refine wl_ldAw (s := shModel) (cs := c6) (by first | rfl | (go_simp; done) | (go_simp; omega)) rfl rfl cx7 hxc6.out ?_))
  refine (toModel_ok cs0 D0 _ r0 hb0).mono ?_
  rintro e w21 ⟨c21, b21, rfl, o21, nd21, lo21, e21⟩
  have m21 := s
  have sz21 := Ext.size e21
  have lt21 := Own.lt o21
  replace e0 := e0.trans (e21)
  replace s := Nat.le_trans s (Ext.size (e21))
  replace c0 := c0.ext (e21)
  replace o3 := o3.ext (e21)
  replace o4 := o4.ext (e21)
  replace o5_0 := o5_0.ext (e21)
  replace cx7 := cx7.ext (e21)
  replace o14 := o14.ext (e21)
  replace o16m := o16m.ext (e21)
  replace o17m := o17m.ext (e21)
  replace o19m := o19m.ext (e21)
  replace r0 := h0.ext e0
  replace r1 := h1.ext e0
  clear e21
  obtain ⟨N21, hN21⟩ : ∃ N, N = w21.heap.size := ⟨_, rfl⟩
  rw [← hN21] at sz21 lt21
  have s := Nat.le_of_eq hN21
  have hxc21 := hid o21.rep.size
  have hyc21 := hid o21.rep.one
  go_wp2_with (first | ((with_reducible show wpList _ _ _ (Oper.mk _ (Op.load _ _) _ _ _ _ :: _) _ _); refine wl_ldAw (s := shModel) (cs := cs0) (by first | rfl | (go_simp; done) | (go_simp; omega)) rfl rfl c0 hl0.out ?_) | ((with_reducible show wpList _ _ _ (Oper.mk _ (Op.load _ _) _ _ _ _ :: _) _ _); refine wl_ldAw (s := shModel) (cs := c6) (by first | rfl | (go_simp; done) | (go_simp; omega)) rfl rfl cx7 hxc6.out ?_))
  refine (toRequestS_ok [.slice p1 (List.length D1) q1] D1 _ r1 hb1).mono ?_
  rintro e w22 ⟨c22, b22, rfl, o22, nd22, lo22, e22⟩
  have m22 := s
  have sz22 := Ext.size e22
  have lt22 := Own.lt o22
  replace e0 := e0.trans (e22)
  replace s := Nat.le_trans s (Ext.size (e22))
  replace c0 := c0.ext (e22)
  replace o3 := o3.ext (e22)
  replace o4 := o4.ext (e22)
  replace o5_0 := o5_0.ext (e22)
  replace cx7 := cx7.ext (e22)
  replace o14 := o14.ext (e22)
  replace o16m := o16m.ext (e22)
  replace o17m := o17m.ext (e22)
  replace o19m := o19m.ext (e22)
  replace o21 := o21.ext (e22)
  replace r0 := h0.ext e0
  replace r1 := h1.ext e0
  clear e22
  obtain ⟨N22, hN22⟩ : ∃ N, N = w22.heap.size := ⟨_, rfl⟩
  rw [← hN22] at sz22 lt22
  have s := Nat.le_of_eq hN22
  obtain ⟨p_c22, q_c22, rfl, hm_c22⟩ := rep_val o22.rep
  simp only [ofCs, Sh.agg, List.headD_cons, Bool.false_eq_true, if_false]
  go_wp2_with (first | ((with_reducible show wpList _ _ _ (Oper.mk _ (Op.load _ _) _ _ _ _ :: _) _ _); refine wl_ldAw (s := shModel) (cs := cs0) (by first | rfl | (go_simp; done) | (go_simp; omega)) rfl rfl c0 hl0.out ?_) | ((with_reducible show wpList _ _ _ (Oper.mk _ (Op.load _ _) _ _ _ _ :: _) _ _); refine wl_ldAw (s := shModel) (cs := c6) (by first | rfl | (go_simp; done) | (go_simp; omega)) rfl rfl cx7 hxc6.out ?_))
  refine (K.out c21 [.slice p_c22 (List.length D1) q_c22] _ o21.rep o22.rep f0 f1 f2 f3 f4).mono ?_
  rintro e w23 ⟨c23_0, b23_0, rfl, o23_0, nd23_0, lo23_0, e23⟩
  dsimp only at o23_0
  have m23 := s
  have sz23 := Ext.size e23
  have lt23_0 := Own.lt o23_0
  replace e0 := e0.trans (e23)
  replace s := Nat.le_trans s (Ext.size (e23))
  replace c0 := c0.ext (e23)
  replace o3 := o3.ext (e23)
  replace o4 := o4.ext (e23)
  replace o5_0 := o5_0.ext (e23)
  replace cx7 := cx7.ext (e23)
  replace o14 := o14.ext (e23)
  replace o16m := o16m.ext (e23)
  replace o17m := o17m.ext (e23)
  replace o19m := o19m.ext (e23)
  replace o21 := o21.ext (e23)
  replace o22 := o22.ext (e23)
  replace r0 := h0.ext e0
  replace r1 := h1.ext e0
  clear e23
  obtain ⟨N23, hN23⟩ : ∃ N, N = w23.heap.size := ⟨_, rfl⟩
  rw [← hN23] at sz23 lt23_0
  have s := Nat.le_of_eq hN23
  obtain ⟨p_c23_0, q_c23_0, rfl, hm_c23_0⟩ := rep_val o23_0.rep
  simp only [ofCs, Sh.agg, List.headD_cons, Bool.false_eq_true, if_false]
  go_wp2_with (first | ((with_reducible show wpList _ _ _ (Oper.mk _ (Op.load _ _) _ _ _ _ :: _) _ _); refine wl_ldAw (s := shModel) (cs := cs0) (by first | rfl | (go_simp; done) | (go_simp; omega)) rfl rfl c0 hl0.out ?_) | ((with_reducible show wpList _ _ _ (Oper.mk _ (Op.load _ _) _ _ _ _ :: _) _ _); refine wl_ldAw (s := shModel) (cs := c6) (by first | rfl | (go_simp; done) | (go_simp; omega)) rfl rfl cx7 hxc6.out ?_))
  refine (eqAnswerS_ok [.slice p_c23_0 (List.length R0) q_c23_0] [.slice p_c5_0 (List.length R0) q_c5_0] R0 _ (o23_0.rep) (o5_0.rep) hbr0).mono ?_
  rintro e w24 ⟨rfl, e24⟩
  replace e0 := e0.trans (e24)
  replace s := Nat.le_trans s (Ext.size (e24))
  replace c0 := c0.ext (e24)
  replace o3 := o3.ext (e24)
  replace o4 := o4.ext (e24)
  replace o5_0 := o5_0.ext (e24)
  replace cx7 := cx7.ext (e24)
  replace o14 := o14.ext (e24)
  replace o16m := o16m.ext (e24)
  replace o17m := o17m.ext (e24)
  replace o19m := o19m.ext (e24)
  replace o21 := o21.ext (e24)
  replace o22 := o22.ext (e24)
  replace o23_0 := o23_0.ext (e24)
  replace r0 := h0.ext e0
  replace r1 := h1.ext e0
  clear e24
  go_wp2_with (first | ((with_reducible show wpList _ _ _ (Oper.mk _ (Op.load _ _) _ _ _ _ :: _) _ _); refine wl_ldAw (s := shModel) (cs := cs0) (by first | rfl | (go_simp; done) | (go_simp; omega)) rfl rfl c0 hl0.out ?_) | ((with_reducible show wpList _ _ _ (Oper.mk _ (Op.load _ _) _ _ _ _ :: _) _ _); refine wl_ldAw (s := shModel) (cs := c6) (by first | rfl | (go_simp; done) | (go_simp; omega)) rfl rfl cx7 hxc6.out ?_))
  refine (heldAnswerS_ok [.slice p_c9_0 (List.length R0) q_c9_0] R0 1 _ o19m.rep (by omega) (by omega)).mono ?_
  rintro e w25 ⟨rfl, e25⟩
  replace e0 := e0.trans (e25)
  replace s := Nat.le_trans s (Ext.size (e25))
  replace c0 := c0.ext (e25)
  replace o3 := o3.ext (e25)
  replace o4 := o4.ext (e25)
  replace o5_0 := o5_0.ext (e25)
  replace cx7 := cx7.ext (e25)
  replace o14 := o14.ext (e25)
  replace o16m := o16m.ext (e25)
  replace o17m := o17m.ext (e25)
  replace o19m := o19m.ext (e25)
  replace o21 := o21.ext (e25)
  replace o22 := o22.ext (e25)
  replace o23_0 := o23_0.ext (e25)
  replace r0 := h0.ext e0
  replace r1 := h1.ext e0
  clear e25
  rw [← HK19.out]
  go_wp2
  go_ret
  exact ⟨rfl, e0⟩
end Go.Proofs.Ytangnigplachdaa.lServeRequests
