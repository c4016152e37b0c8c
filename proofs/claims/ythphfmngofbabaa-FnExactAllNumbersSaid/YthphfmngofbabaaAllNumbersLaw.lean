/- The law FnExactAllNumbers answers true at every input. -/
import Derived.Test.YthphfmngofbabaaAllN
import Derived.Test.YthphfmngofbabaaThings
namespace Go.Proofs.Ythphfmngofbabaa.lAllNumbers
set_option linter.unusedSimpArgs false
set_option linter.unusedVariables false
open Go.RowKit

set_option maxRecDepth 100000 in
set_option maxHeartbeats 1000000 in
theorem law_any (cs0 : List Value) (D0 : Sh.T shTrainState) (w : World) (h0 : Rep w shTrainState cs0 D0) (f0 : Fit shTrainState D0) : Calls Try.prog 10 #[ofCs shTrainState cs0] w fun e w' => e = .returned (.bool true) ∧ Ext w w' := by
  have hl0 := hid h0.size
  have ho0 := hid h0.one
  have e0 := Ext.refl w
  obtain ⟨N0, hN0⟩ : ∃ N0, N0 = w.heap.size := ⟨_, rfl⟩
  have s := Nat.le_of_eq hN0
  have r0 := h0
  go_enter Try.func10, Try.ntmps10
  go_wp2_with (first | ((with_reducible show wpList _ _ _ (Oper.mk _ (Op.box _ _) _ _ _ _ :: _) _ _); refine wl_box (s := shTrainState) (cs := cs0) rfl rfl rfl hl0.out ho0.out ?_; intro b0 v0 g0 vv0 c0; have mb0 := Nat.le_trans s vv0; replace e0 := e0.trans (g0); replace s := Nat.le_trans s (Ext.size (g0)); replace r0 := h0.ext e0; have vl0 := Cs.blkLt c0 (by rw [hl0.out]; decide); obtain ⟨Nb0, hNb0⟩ : ∃ N, N = v0.heap.size := ⟨_, rfl⟩; rw [← hNb0] at vl0; have s := Nat.le_of_eq hNb0) | ((with_reducible show wpList _ _ _ (Oper.mk _ (Op.load _ _) _ _ _ _ :: _) _ _); refine wl_ldA (s := shTrainState) (cs := cs0) rfl rfl rfl c0 hl0.out ?_))
  refine (szTrainState_ok cs0 D0 1048576 _ r0 (by omega) (by omega)).mono ?_
  rintro e w1 ⟨⟨s1, rfl, hs1⟩, e1⟩
  replace e0 := e0.trans (e1)
  replace s := Nat.le_trans s (Ext.size (e1))
  replace c0 := c0.ext (e1)
  replace r0 := h0.ext e0
  clear e1
  by_cases hn1 : s1 < 0
  · go_wp2
    go_ret
    exact ⟨rfl, e0⟩
  have hb0 : tot shTrainState D0 ≤ 1048576 := by rcases hs1 with h | h; exact absurd h hn1; omega
  have hz1 : 0 ≤ s1 := by omega
  have ht1 : s1 ≤ 1048576 := by rcases hs1 with h | h; exact absurd h hn1; omega
  clear hs1
  go_wp2_with (first | ((with_reducible show wpList _ _ _ (Oper.mk _ (Op.load _ _) _ _ _ _ :: _) _ _); refine wl_ldA (s := shTrainState) (cs := cs0) rfl rfl rfl c0 hl0.out ?_))
  refine (toTrainState_ok cs0 D0 _ r0 hb0).mono ?_
  rintro e w2 ⟨c2, b2, rfl, o2, nd2, lo2, e2⟩
  have m2 := s
  have sz2 := Ext.size e2
  have lt2 := Own.lt o2
  replace e0 := e0.trans (e2)
  replace s := Nat.le_trans s (Ext.size (e2))
  replace c0 := c0.ext (e2)
  replace r0 := h0.ext e0
  clear e2
  obtain ⟨N2, hN2⟩ : ∃ N, N = w2.heap.size := ⟨_, rfl⟩
  rw [← hN2] at sz2 lt2
  have s := Nat.le_of_eq hN2
  have hxc2 := hid o2.rep.size
  have hyc2 := hid o2.rep.one
  go_wp2_with (first | ((with_reducible show wpList _ _ _ (Oper.mk _ (Op.load _ _) _ _ _ _ :: _) _ _); refine wl_ldA (s := shTrainState) (cs := cs0) rfl rfl rfl c0 hl0.out ?_))
  refine (spec_ok c2 D0 _ o2.rep f0).mono ?_
  rintro e w3 ⟨c3_0, b3_0, rfl, o3_0, nd3_0, lo3_0, e3⟩
  have hbr0 := res_bd D0 hb0 f0
  have K := hid (fun y0 W => impl_ok y0 D0 W)
  generalize res D0 = r at *
  obtain ⟨R0, R1⟩ := r
  dsimp only at hbr0 o3_0
  have m3 := s
  have sz3 := Ext.size e3
  have lt3_0 := Own.lt o3_0
  replace e0 := e0.trans (e3)
  replace s := Nat.le_trans s (Ext.size (e3))
  replace c0 := c0.ext (e3)
  replace o2 := o2.ext (e3)
  replace r0 := h0.ext e0
  clear e3
  obtain ⟨N3, hN3⟩ : ∃ N, N = w3.heap.size := ⟨_, rfl⟩
  rw [← hN3] at sz3 lt3_0
  have s := Nat.le_of_eq hN3
  obtain ⟨p_c3_0, q_c3_0, rfl, hm_c3_0⟩ := rep_val o3_0.rep
  simp only [ofCs, Sh.agg, List.headD_cons, Bool.false_eq_true, if_false]
  go_wp2_with (first | ((with_reducible show wpList _ _ _ (Oper.mk _ (Op.load _ _) _ _ _ _ :: _) _ _); refine wl_ldA (s := shTrainState) (cs := cs0) rfl rfl rfl c0 hl0.out ?_))
  refine (toTrainState_ok cs0 D0 _ r0 hb0).mono ?_
  rintro e w4 ⟨c4, b4, rfl, o4, nd4, lo4, e4⟩
  have m4 := s
  have sz4 := Ext.size e4
  have lt4 := Own.lt o4
  replace e0 := e0.trans (e4)
  replace s := Nat.le_trans s (Ext.size (e4))
  replace c0 := c0.ext (e4)
  replace o2 := o2.ext (e4)
  replace o3_0 := o3_0.ext (e4)
  replace r0 := h0.ext e0
  clear e4
  obtain ⟨N4, hN4⟩ : ∃ N, N = w4.heap.size := ⟨_, rfl⟩
  rw [← hN4] at sz4 lt4
  have s := Nat.le_of_eq hN4
  have hxc4 := hid o4.rep.size
  have hyc4 := hid o4.rep.one
  go_wp2_with (first | ((with_reducible show wpList _ _ _ (Oper.mk _ (Op.load _ _) _ _ _ _ :: _) _ _); refine wl_ldA (s := shTrainState) (cs := cs0) rfl rfl rfl c0 hl0.out ?_) | ((with_reducible show wpList _ _ _ (Oper.mk _ (Op.store _ _ _) _ _ _ _ :: _) _ _); refine wl_stA (s := shTrainState) (cs := c4) rfl rfl rfl rfl (by first | exact heap_alloc_new _ _ | exact heap_alloc_old2 _ _ _) rfl hxc4.out hyc4.out (by decide) ?_; intro wc5 cx5 ch5; have E5 := (Ext.of_chg1 ch5); have mc5 := s; replace e0 := e0.trans (E5); replace s := Nat.le_trans s (Ext.size (E5)); replace c0 := c0.ext (E5); replace o2 := o2.ext (E5); replace o3_0 := o3_0.ext (E5); replace o4 := o4.ext (E5); replace r0 := h0.ext e0; have vl5 := Cs.blkLt cx5 (by rw [hxc4.out]; decide); obtain ⟨Nc5, hNc5⟩ : ∃ N, N = wc5.heap.size := ⟨_, rfl⟩; rw [← hNc5] at vl5; have s := Nat.le_of_eq hNc5; clear E5 ch5) | ((with_reducible show wpList _ _ _ (Oper.mk _ (Op.load _ _) _ _ _ _ :: _) _ _); refine wl_ldA (s := shTrainState) (cs := c4) rfl rfl rfl cx5 hxc4.out ?_))
  refine (K.out c4 _ o4.rep f0).mono ?_
  rintro e w6 ⟨c6_0, b6_0, rfl, o6_0, nd6_0, lo6_0, e6⟩
  dsimp only at o6_0
  have m6 := s
  have sz6 := Ext.size e6
  have lt6_0 := Own.lt o6_0
  replace e0 := e0.trans (e6)
  replace s := Nat.le_trans s (Ext.size (e6))
  replace c0 := c0.ext (e6)
  replace o2 := o2.ext (e6)
  replace o3_0 := o3_0.ext (e6)
  replace o4 := o4.ext (e6)
  replace cx5 := cx5.ext (e6)
  replace r0 := h0.ext e0
  clear e6
  obtain ⟨N6, hN6⟩ : ∃ N, N = w6.heap.size := ⟨_, rfl⟩
  rw [← hN6] at sz6 lt6_0
  have s := Nat.le_of_eq hN6
  obtain ⟨p_c6_0, q_c6_0, rfl, hm_c6_0⟩ := rep_val o6_0.rep
  simp only [ofCs, Sh.agg, List.headD_cons, Bool.false_eq_true, if_false]
  go_wp2_with (first | ((with_reducible show wpList _ _ _ (Oper.mk _ (Op.load _ _) _ _ _ _ :: _) _ _); refine wl_ldA (s := shTrainState) (cs := cs0) rfl rfl rfl c0 hl0.out ?_) | ((with_reducible show wpList _ _ _ (Oper.mk _ (Op.load _ _) _ _ _ _ :: _) _ _); refine wl_ldA (s := shTrainState) (cs := c4) rfl rfl rfl cx5 hxc4.out ?_))
  refine (eqFloat32S_ok [.slice p_c6_0 (List.length R0) q_c6_0] [.slice p_c3_0 (List.length R0) q_c3_0] R0 _ (o6_0.rep) (o3_0.rep) hbr0).mono ?_
  rintro e w7 ⟨rfl, e7⟩
  replace e0 := e0.trans (e7)
  replace s := Nat.le_trans s (Ext.size (e7))
  replace c0 := c0.ext (e7)
  replace o2 := o2.ext (e7)
  replace o3_0 := o3_0.ext (e7)
  replace o4 := o4.ext (e7)
  replace cx5 := cx5.ext (e7)
  replace o6_0 := o6_0.ext (e7)
  replace r0 := h0.ext e0
  clear e7
  go_wp2_with (first | ((with_reducible show wpList _ _ _ (Oper.mk _ (Op.load _ _) _ _ _ _ :: _) _ _); refine wl_ldA (s := shTrainState) (cs := cs0) rfl rfl rfl c0 hl0.out ?_) | ((with_reducible show wpList _ _ _ (Oper.mk _ (Op.load _ _) _ _ _ _ :: _) _ _); refine wl_ldA (s := shTrainState) (cs := c4) rfl rfl rfl cx5 hxc4.out ?_))
  replace e0 := e0.trans ((Ext.drew _))
  replace s := Nat.le_trans s (Ext.size ((Ext.drew _)))
  replace c0 := c0.ext ((Ext.drew _))
  replace o2 := o2.ext ((Ext.drew _))
  replace o3_0 := o3_0.ext ((Ext.drew _))
  replace o4 := o4.ext ((Ext.drew _))
  replace cx5 := cx5.ext ((Ext.drew _))
  replace o6_0 := o6_0.ext ((Ext.drew _))
  replace r0 := h0.ext e0
  obtain ⟨F8, hF8⟩ : ∃ F : Option Tmp → World → Value → Prop, F = fun d W u => (match d with | some 43 => ∃ cs', u = ofCs shTrainState cs' ∧ Rep W shTrainState cs' D0 | _ => True) := ⟨_, rfl⟩
  have HF8 := hid hF8
  clear hF8
  refine wp_region_xt 3 (F := F8) (by kernel_rfl) (by kernel_rfl) (by kernel_rfl) (by kernel_rfl) (by kernel_rfl) ?_
  intro wf hwf
  simp only [List.take_succ_cons, List.take_zero, List.drop_succ_cons, List.drop_zero]
  first | (refine x_ldA (s := shTrainState) (cs := cs0) rfl rfl rfl c0 hl0.out ?_) | (refine x_ldA (s := shTrainState) (cs := c4) rfl rfl rfl cx5 hxc4.out ?_)
  simp only [Act.put, ev_tmp, List.setIfInBounds_toArray, List.set_cons_succ, List.set_cons_zero, List.getD_cons_succ, List.getD_cons_zero]
  first | (refine x_ldA (s := shTrainState) (cs := cs0) rfl rfl rfl c0 hl0.out ?_) | (refine x_ldA (s := shTrainState) (cs := c4) rfl rfl rfl cx5 hxc4.out ?_)
  simp only [Act.put, ev_tmp, List.setIfInBounds_toArray, List.set_cons_succ, List.set_cons_zero, List.getD_cons_succ, List.getD_cons_zero]
  refine x_callf (f := 15) (args := #[ofCs shTrainState cs0]) rfl rfl Try.func15 rfl (by kernel_rfl) ?_ ?_ ?_; (focus (simp [Act.eval]; done)); (focus (intro w1 hw1; exact ((toTrainState_ok cs0 D0 w1 (r0.ext hw1) hb0).mono fun e w3 ⟨cs3, bs3, g1, g2, _, _, g3⟩ => ⟨_, g1, g3, by rw [HF8.out]; exact ⟨cs3, rfl, g2.rep⟩⟩))); rintro u w3 e3 e4 hu; simp only [HF8.out] at hu; obtain ⟨cz9, rfl, rz9⟩ := hu; replace rz9 := rz9.ext e4
  simp only [Act.put, ev_tmp, List.setIfInBounds_toArray, List.set_cons_succ, List.set_cons_zero, List.getD_cons_succ, List.getD_cons_zero]
  refine x_nil ?_
  replace e0 := e0.trans (hwf)
  replace s := Nat.le_trans s (Ext.size (hwf))
  replace c0 := c0.ext (hwf)
  replace o2 := o2.ext (hwf)
  replace o3_0 := o3_0.ext (hwf)
  replace o4 := o4.ext (hwf)
  replace cx5 := cx5.ext (hwf)
  replace o6_0 := o6_0.ext (hwf)
  replace r0 := h0.ext e0
  clear hwf
  go_wp2_with fail
  refine (eqTrainState_ok c4 cz9 D0 _ (o4.rep) (rz9) hb0).mono ?_
  rintro e w10 ⟨rfl, e10⟩
  replace e0 := e0.trans (e10)
  replace s := Nat.le_trans s (Ext.size (e10))
  replace c0 := c0.ext (e10)
  replace o2 := o2.ext (e10)
  replace o3_0 := o3_0.ext (e10)
  replace o4 := o4.ext (e10)
  replace cx5 := cx5.ext (e10)
  replace o6_0 := o6_0.ext (e10)
  replace rz9 := rz9.ext (e10)
  replace r0 := h0.ext e0
  clear e10
  go_wp2_with (first | ((with_reducible show wpList _ _ _ (Oper.mk _ (Op.load _ _) _ _ _ _ :: _) _ _); refine wl_ldA (s := shTrainState) (cs := cs0) rfl rfl rfl c0 hl0.out ?_) | ((with_reducible show wpList _ _ _ (Oper.mk _ (Op.load _ _) _ _ _ _ :: _) _ _); refine wl_ldA (s := shTrainState) (cs := c4) rfl rfl rfl cx5 hxc4.out ?_))
  have mb11 := mkV_bd shTrainState (by decide) D0 1
  refine (markTrainState_ok c4 D0 b4 1 _ o4 nd4 (by omega) (by omega)).mono ?_
  rintro e w11 ⟨rfl, o11m, ch11⟩
  replace e0 := e0.chg ch11 fun b hb => by have := lo4 b hb; omega
  replace s := Nat.le_trans s (Chg.size ch11)
  replace c0 := Cs.chgB c0 ch11 (Cs.blkLt c0 (by rw [hl0.out]; decide)) (fun h => by have := lo4 _ h; have := lt4 _ h; omega)
  replace o2 := o2.chg ch11 (fun b hb h => by have := lo2 b hb; have := lt2 b hb; have := lo4 b h; have := lt4 b h; omega)
  replace o3_0 := o3_0.chg ch11 (fun b hb h => by have := lo3_0 b hb; have := lt3_0 b hb; have := lo4 b h; have := lt4 b h; omega)
  replace cx5 := Cs.chgB cx5 ch11 (Cs.blkLt cx5 (by rw [hxc4.out]; decide)) (fun h => by have := lo4 _ h; have := lt4 _ h; omega)
  replace o6_0 := o6_0.chg ch11 (fun b hb h => by have := lo6_0 b hb; have := lt6_0 b hb; have := lo4 b h; have := lt4 b h; omega)
  clear rz9
  replace r0 := h0.ext e0
  clear o4 ch11
  obtain ⟨k11, hk11⟩ : ∃ k, k = (mkV shTrainState D0 1).2 := ⟨_, rfl⟩
  rw [← hk11] at mb11 ⊢
  have HK11 := hid hk11
  clear hk11
  go_wp2_with (first | ((with_reducible show wpList _ _ _ (Oper.mk _ (Op.load _ _) _ _ _ _ :: _) _ _); refine wl_ldA (s := shTrainState) (cs := cs0) rfl rfl rfl c0 hl0.out ?_) | ((with_reducible show wpList _ _ _ (Oper.mk _ (Op.load _ _) _ _ _ _ :: _) _ _); refine wl_ldA (s := shTrainState) (cs := c4) rfl rfl rfl cx5 hxc4.out ?_))
  refine (eqFloat32S_ok [.slice p_c6_0 (List.length R0) q_c6_0] [.slice p_c3_0 (List.length R0) q_c3_0] R0 _ (o6_0.rep) (o3_0.rep) hbr0).mono ?_
  rintro e w12 ⟨rfl, e12⟩
  replace e0 := e0.trans (e12)
  replace s := Nat.le_trans s (Ext.size (e12))
  replace c0 := c0.ext (e12)
  replace o2 := o2.ext (e12)
  replace o3_0 := o3_0.ext (e12)
  replace cx5 := cx5.ext (e12)
  replace o6_0 := o6_0.ext (e12)
  replace o11m := o11m.ext (e12)
  replace r0 := h0.ext e0
  clear e12
  go_wp2_with (first | ((with_reducible show wpList _ _ _ (Oper.mk _ (Op.load _ _) _ _ _ _ :: _) _ _); refine wl_ldA (s := shTrainState) (cs := cs0) rfl rfl rfl c0 hl0.out ?_) | ((with_reducible show wpList _ _ _ (Oper.mk _ (Op.load _ _) _ _ _ _ :: _) _ _); refine wl_ldA (s := shTrainState) (cs := c4) rfl rfl rfl cx5 hxc4.out ?_))
  have mb13 := mkV_bd (.sl .flt) (by decide) R0 1
  refine (markFloat32S_ok [.slice p_c6_0 (List.length R0) q_c6_0] R0 b6_0 1 _ o6_0 nd6_0 (by omega) (by omega)).mono ?_
  rintro e w13 ⟨rfl, o13m, ch13⟩
  replace e0 := e0.chg ch13 fun b hb => by have := lo6_0 b hb; omega
  replace s := Nat.le_trans s (Chg.size ch13)
  replace c0 := Cs.chgB c0 ch13 (Cs.blkLt c0 (by rw [hl0.out]; decide)) (fun h => by have := lo6_0 _ h; have := lt6_0 _ h; omega)
  replace o2 := o2.chg ch13 (fun b hb h => by have := lo2 b hb; have := lt2 b hb; have := lo6_0 b h; have := lt6_0 b h; omega)
  replace o3_0 := o3_0.chg ch13 (fun b hb h => by have := lo3_0 b hb; have := lt3_0 b hb; have := lo6_0 b h; have := lt6_0 b h; omega)
  replace cx5 := Cs.chgB cx5 ch13 (Cs.blkLt cx5 (by rw [hxc4.out]; decide)) (fun h => by have := lo6_0 _ h; have := lt6_0 _ h; omega)
  replace o11m := o11m.chg ch13 (fun b hb h => by have := lo4 b hb; have := lt4 b hb; have := lo6_0 b h; have := lt6_0 b h; omega)
  replace r0 := h0.ext e0
  clear o6_0 ch13
  obtain ⟨k13, hk13⟩ : ∃ k, k = (mkV (.sl .flt) R0 1).2 := ⟨_, rfl⟩
  rw [← hk13] at mb13 ⊢
  have HK13 := hid hk13
  clear hk13
  go_wp2_with (first | ((with_reducible show wpList _ _ _ (Oper.mk _ (Op.load _ _) _ _ _ _ :: _) _ _); refine wl_ldA (s := shTrainState) (cs := cs0) rfl rfl rfl c0 hl0.out ?_) | ((with_reducible show wpList _ _ _ (Oper.mk _ (Op.load _ _) _ _ _ _ :: _) _ _); refine wl_ldA (s := shTrainState) (cs := c4) rfl rfl rfl cx5 hxc4.out ?_))
  refine (heldFloat32S_ok [.slice p_c6_0 (List.length R0) q_c6_0] R0 1 _ o13m.rep (by omega) (by omega)).mono ?_
  rintro e w14 ⟨rfl, e14⟩
  replace e0 := e0.trans (e14)
  replace s := Nat.le_trans s (Ext.size (e14))
  replace c0 := c0.ext (e14)
  replace o2 := o2.ext (e14)
  replace o3_0 := o3_0.ext (e14)
  replace cx5 := cx5.ext (e14)
  replace o11m := o11m.ext (e14)
  replace o13m := o13m.ext (e14)
  replace r0 := h0.ext e0
  clear e14
  rw [← HK13.out]
  go_wp2_with (first | ((with_reducible show wpList _ _ _ (Oper.mk _ (Op.load _ _) _ _ _ _ :: _) _ _); refine wl_ldA (s := shTrainState) (cs := cs0) rfl rfl rfl c0 hl0.out ?_) | ((with_reducible show wpList _ _ _ (Oper.mk _ (Op.load _ _) _ _ _ _ :: _) _ _); refine wl_ldA (s := shTrainState) (cs := c4) rfl rfl rfl cx5 hxc4.out ?_))
  refine (toTrainState_ok cs0 D0 _ r0 hb0).mono ?_
  rintro e w15 ⟨c15, b15, rfl, o15, nd15, lo15, e15⟩
  have m15 := s
  have sz15 := Ext.size e15
  have lt15 := Own.lt o15
  replace e0 := e0.trans (e15)
  replace s := Nat.le_trans s (Ext.size (e15))
  replace c0 := c0.ext (e15)
  replace o2 := o2.ext (e15)
  replace o3_0 := o3_0.ext (e15)
  replace cx5 := cx5.ext (e15)
  replace o11m := o11m.ext (e15)
  replace o13m := o13m.ext (e15)
  replace r0 := h0.ext e0
  clear e15
  obtain ⟨N15, hN15⟩ : ∃ N, N = w15.heap.size := ⟨_, rfl⟩
  rw [← hN15] at sz15 lt15
  have s := Nat.le_of_eq hN15
  have hxc15 := hid o15.rep.size
  have hyc15 := hid o15.rep.one
  go_wp2_with (first | ((with_reducible show wpList _ _ _ (Oper.mk _ (Op.load _ _) _ _ _ _ :: _) _ _); refine wl_ldA (s := shTrainState) (cs := cs0) rfl rfl rfl c0 hl0.out ?_) | ((with_reducible show wpList _ _ _ (Oper.mk _ (Op.load _ _) _ _ _ _ :: _) _ _); refine wl_ldA (s := shTrainState) (cs := c4) rfl rfl rfl cx5 hxc4.out ?_))
  refine (K.out c15 _ o15.rep f0).mono ?_
  rintro e w16 ⟨c16_0, b16_0, rfl, o16_0, nd16_0, lo16_0, e16⟩
  dsimp only at o16_0
  have m16 := s
  have sz16 := Ext.size e16
  have lt16_0 := Own.lt o16_0
  replace e0 := e0.trans (e16)
  replace s := Nat.le_trans s (Ext.size (e16))
  replace c0 := c0.ext (e16)
  replace o2 := o2.ext (e16)
  replace o3_0 := o3_0.ext (e16)
  replace cx5 := cx5.ext (e16)
  replace o11m := o11m.ext (e16)
  replace o13m := o13m.ext (e16)
  replace o15 := o15.ext (e16)
  replace r0 := h0.ext e0
  clear e16
  obtain ⟨N16, hN16⟩ : ∃ N, N = w16.heap.size := ⟨_, rfl⟩
  rw [← hN16] at sz16 lt16_0
  have s := Nat.le_of_eq hN16
  obtain ⟨p_c16_0, q_c16_0, rfl, hm_c16_0⟩ := rep_val o16_0.rep
  simp only [ofCs, Sh.agg, List.headD_cons, Bool.false_eq_true, if_false]
  go_wp2_with (first | ((with_reducible show wpList _ _ _ (Oper.mk _ (Op.load _ _) _ _ _ _ :: _) _ _); refine wl_ldA (s := shTrainState) (cs := cs0) rfl rfl rfl c0 hl0.out ?_) | ((with_reducible show wpList _ _ _ (Oper.mk _ (Op.load _ _) _ _ _ _ :: _) _ _); refine wl_ldA (s := shTrainState) (cs := c4) rfl rfl rfl cx5 hxc4.out ?_))
  refine (eqFloat32S_ok [.slice p_c16_0 (List.length R0) q_c16_0] [.slice p_c3_0 (List.length R0) q_c3_0] R0 _ (o16_0.rep) (o3_0.rep) hbr0).mono ?_
  rintro e w17 ⟨rfl, e17⟩
  replace e0 := e0.trans (e17)
  replace s := Nat.le_trans s (Ext.size (e17))
  replace c0 := c0.ext (e17)
  replace o2 := o2.ext (e17)
  replace o3_0 := o3_0.ext (e17)
  replace cx5 := cx5.ext (e17)
  replace o11m := o11m.ext (e17)
  replace o13m := o13m.ext (e17)
  replace o15 := o15.ext (e17)
  replace o16_0 := o16_0.ext (e17)
  replace r0 := h0.ext e0
  clear e17
  go_wp2_with (first | ((with_reducible show wpList _ _ _ (Oper.mk _ (Op.load _ _) _ _ _ _ :: _) _ _); refine wl_ldA (s := shTrainState) (cs := cs0) rfl rfl rfl c0 hl0.out ?_) | ((with_reducible show wpList _ _ _ (Oper.mk _ (Op.load _ _) _ _ _ _ :: _) _ _); refine wl_ldA (s := shTrainState) (cs := c4) rfl rfl rfl cx5 hxc4.out ?_))
  refine (heldFloat32S_ok [.slice p_c6_0 (List.length R0) q_c6_0] R0 1 _ o13m.rep (by omega) (by omega)).mono ?_
  rintro e w18 ⟨rfl, e18⟩
  replace e0 := e0.trans (e18)
  replace s := Nat.le_trans s (Ext.size (e18))
  replace c0 := c0.ext (e18)
  replace o2 := o2.ext (e18)
  replace o3_0 := o3_0.ext (e18)
  replace cx5 := cx5.ext (e18)
  replace o11m := o11m.ext (e18)
  replace o13m := o13m.ext (e18)
  replace o15 := o15.ext (e18)
  replace o16_0 := o16_0.ext (e18)
  replace r0 := h0.ext e0
  clear e18
  rw [← HK13.out]
  go_wp2
  go_ret
  exact ⟨rfl, e0⟩
end Go.Proofs.Ythphfmngofbabaa.lAllNumbers
