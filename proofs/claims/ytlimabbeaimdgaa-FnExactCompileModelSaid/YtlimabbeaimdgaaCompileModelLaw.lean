/- The law FnExactCompileModel answers true at every input. -/
import Derived.Test.YtlimabbeaimdgaaCompL
import Derived.Test.YtlimabbeaimdgaaKb
import Derived.Test.YtlimabbeaimdgaaKf
namespace Go.Proofs.Ytlimabbeaimdgaa.lCompileModel
set_option linter.unusedSimpArgs false
set_option linter.unusedVariables false
open Go.RowKit

set_option maxRecDepth 100000 in
set_option maxHeartbeats 1000000 in
theorem law_any (cs0 : List Value) (D0 : Sh.T shModel) (w : World) (h0 : Rep w shModel cs0 D0) (f0 : Fit shModel D0) : Calls Try.prog 3 #[ofCs shModel cs0] w fun e w' => e = .returned (.bool true) ∧ Ext w w' := by
  have hl0 := hid h0.size
  have ho0 := hid h0.one
  have e0 := Ext.refl w
  obtain ⟨N0, hN0⟩ : ∃ N0, N0 = w.heap.size := ⟨_, rfl⟩
  have s := Nat.le_of_eq hN0
  have r0 := h0
  go_enter Try.func3, Try.ntmps3
  go_wp2_with (first | ((with_reducible show wpList _ _ _ (Oper.mk _ (Op.box _ _) _ _ _ _ :: _) _ _); refine wl_box (s := shModel) (cs := cs0) rfl rfl rfl hl0.out ho0.out ?_; intro b0 v0 g0 vv0 c0; have mb0 := Nat.le_trans s vv0; replace e0 := e0.trans (g0); replace s := Nat.le_trans s (Ext.size (g0)); replace r0 := h0.ext e0; have vl0 := Cs.blkLt c0 (by rw [hl0.out]; decide); obtain ⟨Nb0, hNb0⟩ : ∃ N, N = v0.heap.size := ⟨_, rfl⟩; rw [← hNb0] at vl0; have s := Nat.le_of_eq hNb0) | ((with_reducible show wpList _ _ _ (Oper.mk _ (Op.load _ _) _ _ _ _ :: _) _ _); refine wl_ldAw (s := shModel) (cs := cs0) (by first | rfl | (go_simp; done) | (go_simp; omega)) rfl rfl c0 hl0.out ?_))
  refine (szModel_ok cs0 D0 1048576 _ r0 (by omega) (by omega)).mono ?_
  rintro e w1 ⟨⟨s1, rfl, hs1⟩, e1⟩
  replace e0 := e0.trans (e1)
  replace s := Nat.le_trans s (Ext.size (e1))
  replace c0 := c0.ext (e1)
  replace r0 := h0.ext e0
  clear e1
  by_cases hn1 : s1 < 0
  · go_wp2
    go_ret
    exact ⟨rfl, e0⟩
  have hb0 : tot shModel D0 ≤ 1048576 := by rcases hs1 with h | h; exact absurd h hn1; omega
  have hz1 : 0 ≤ s1 := by omega
  have ht1 : s1 ≤ 1048576 := by rcases hs1 with h | h; exact absurd h hn1; omega
  clear hs1
  go_wp2_with (first | ((with_reducible show wpList _ _ _ (Oper.mk _ (Op.load _ _) _ _ _ _ :: _) _ _); refine wl_ldAw (s := shModel) (cs := cs0) (by first | rfl | (go_simp; done) | (go_simp; omega)) rfl rfl c0 hl0.out ?_))
  refine (toModel_ok cs0 D0 _ r0 hb0).mono ?_
  rintro e w2 ⟨c2, b2, rfl, o2, nd2, lo2, e2⟩
  have m2 := s
  have sz2 := Ext.size e2
  have lt2 := Own.lt o2
  replace e0 := e0.trans (e2)
  replace s := Nat.le_trans s (Ext.size (e2))
  replace c0 := c0.ext (e2)
  replace r0 := h0.ext e0
  clear e2
  obtain ⟨N2, hN2⟩ : ∃ N, N = w2.heap.size := ⟨_, rfl⟩
  rw [← hN2] at sz2 lt2
  have s := Nat.le_of_eq hN2
  have hxc2 := hid o2.rep.size
  have hyc2 := hid o2.rep.one
  go_wp2_with (first | ((with_reducible show wpList _ _ _ (Oper.mk _ (Op.load _ _) _ _ _ _ :: _) _ _); refine wl_ldAw (s := shModel) (cs := cs0) (by first | rfl | (go_simp; done) | (go_simp; omega)) rfl rfl c0 hl0.out ?_))
  refine (spec_ok c2 D0 _ o2.rep f0).mono ?_
  rintro e w3 ⟨c3_0, b3_0, rfl, o3_0, nd3_0, lo3_0, _, e3⟩
  have hbr0 := res_bd D0 hb0 f0
  have K := hid (fun y0 W => impl_ok y0 D0 W)
  generalize res D0 = r at *
  obtain ⟨R0, R1⟩ := r
  dsimp only at hbr0 o3_0
  have m3 := s
  have sz3 := Ext.size e3
  have lt3_0 := Own.lt o3_0
  replace e0 := e0.trans (e3)
  replace s := Nat.le_trans s (Ext.size (e3))
  replace c0 := c0.ext (e3)
  replace o2 := o2.ext (e3)
  replace r0 := h0.ext e0
  clear e3
  obtain ⟨N3, hN3⟩ : ∃ N, N = w3.heap.size := ⟨_, rfl⟩
  rw [← hN3] at sz3 lt3_0
  have s := Nat.le_of_eq hN3
  have hxc3_0 := hid o3_0.rep.size
  have hyc3_0 := hid o3_0.rep.one
  go_wp2_with (first | ((with_reducible show wpList _ _ _ (Oper.mk _ (Op.load _ _) _ _ _ _ :: _) _ _); refine wl_ldAw (s := shModel) (cs := cs0) (by first | rfl | (go_simp; done) | (go_simp; omega)) rfl rfl c0 hl0.out ?_) | ((with_reducible show wpList _ _ _ (Oper.mk _ (Op.store _ _ _) _ _ _ _ :: _) _ _); refine wl_stA (s := shPlan) (cs := c3_0) rfl rfl rfl rfl (by first | exact heap_alloc_new _ _ | exact heap_alloc_old2 _ _ _) rfl hxc3_0.out hyc3_0.out (by decide) ?_; intro wc4 cx4 ch4; have E4 := (Ext.of_chg1 ch4); have mc4 := s; replace e0 := e0.trans (E4); replace s := Nat.le_trans s (Ext.size (E4)); replace c0 := c0.ext (E4); replace o2 := o2.ext (E4); replace o3_0 := o3_0.ext (E4); replace r0 := h0.ext e0; have vl4 := Cs.blkLt cx4 (by rw [hxc3_0.out]; decide); obtain ⟨Nc4, hNc4⟩ : ∃ N, N = wc4.heap.size := ⟨_, rfl⟩; rw [← hNc4] at vl4; have s := Nat.le_of_eq hNc4; clear E4 ch4) | ((with_reducible show wpList _ _ _ (Oper.mk _ (Op.load _ _) _ _ _ _ :: _) _ _); refine wl_ldAw (s := shPlan) (cs := c3_0) (by first | rfl | (go_simp; done) | (go_simp; omega)) rfl rfl cx4 hxc3_0.out ?_))
  refine (toModel_ok cs0 D0 _ r0 hb0).mono ?_
  rintro e w5 ⟨c5, b5, rfl, o5, nd5, lo5, e5⟩
  have m5 := s
  have sz5 := Ext.size e5
  have lt5 := Own.lt o5
  replace e0 := e0.trans (e5)
  replace s := Nat.le_trans s (Ext.size (e5))
  replace c0 := c0.ext (e5)
  replace o2 := o2.ext (e5)
  replace o3_0 := o3_0.ext (e5)
  replace cx4 := cx4.ext (e5)
  replace r0 := h0.ext e0
  clear e5
  obtain ⟨N5, hN5⟩ : ∃ N, N = w5.heap.size := ⟨_, rfl⟩
  rw [← hN5] at sz5 lt5
  have s := Nat.le_of_eq hN5
  have hxc5 := hid o5.rep.size
  have hyc5 := hid o5.rep.one
  go_wp2_with (first | ((with_reducible show wpList _ _ _ (Oper.mk _ (Op.load _ _) _ _ _ _ :: _) _ _); refine wl_ldAw (s := shModel) (cs := cs0) (by first | rfl | (go_simp; done) | (go_simp; omega)) rfl rfl c0 hl0.out ?_) | ((with_reducible show wpList _ _ _ (Oper.mk _ (Op.load _ _) _ _ _ _ :: _) _ _); refine wl_ldAw (s := shPlan) (cs := c3_0) (by first | rfl | (go_simp; done) | (go_simp; omega)) rfl rfl cx4 hxc3_0.out ?_) | ((with_reducible show wpList _ _ _ (Oper.mk _ (Op.store _ _ _) _ _ _ _ :: _) _ _); refine wl_stA (s := shModel) (cs := c5) rfl rfl rfl rfl (by first | exact heap_alloc_new _ _ | exact heap_alloc_old2 _ _ _) rfl hxc5.out hyc5.out (by decide) ?_; intro wc6 cx6 ch6; have E6 := (Ext.of_chg1 ch6); have mc6 := s; replace e0 := e0.trans (E6); replace s := Nat.le_trans s (Ext.size (E6)); replace c0 := c0.ext (E6); replace o2 := o2.ext (E6); replace o3_0 := o3_0.ext (E6); replace cx4 := cx4.ext (E6); replace o5 := o5.ext (E6); replace r0 := h0.ext e0; have vl6 := Cs.blkLt cx6 (by rw [hxc5.out]; decide); obtain ⟨Nc6, hNc6⟩ : ∃ N, N = wc6.heap.size := ⟨_, rfl⟩; rw [← hNc6] at vl6; have s := Nat.le_of_eq hNc6; clear E6 ch6) | ((with_reducible show wpList _ _ _ (Oper.mk _ (Op.load _ _) _ _ _ _ :: _) _ _); refine wl_ldAw (s := shModel) (cs := c5) (by first | rfl | (go_simp; done) | (go_simp; omega)) rfl rfl cx6 hxc5.out ?_))
  refine (K.out c5 _ o5.rep f0).mono ?_
  rintro e w7 ⟨c7_0, b7_0, rfl, o7_0, nd7_0, lo7_0, _, e7⟩
  dsimp only at o7_0
  have m7 := s
  have sz7 := Ext.size e7
  have lt7_0 := Own.lt o7_0
  replace e0 := e0.trans (e7)
  replace s := Nat.le_trans s (Ext.size (e7))
  replace c0 := c0.ext (e7)
  replace o2 := o2.ext (e7)
  replace o3_0 := o3_0.ext (e7)
  replace cx4 := cx4.ext (e7)
  replace o5 := o5.ext (e7)
  replace cx6 := cx6.ext (e7)
  replace r0 := h0.ext e0
  clear e7
  obtain ⟨N7, hN7⟩ : ∃ N, N = w7.heap.size := ⟨_, rfl⟩
  rw [← hN7] at sz7 lt7_0
  have s := Nat.le_of_eq hN7
  have hxc7_0 := hid o7_0.rep.size
  have hyc7_0 := hid o7_0.rep.one
  go_wp2_with (first | ((with_reducible show wpList _ _ _ (Oper.mk _ (Op.load _ _) _ _ _ _ :: _) _ _); refine wl_ldAw (s := shModel) (cs := cs0) (by first | rfl | (go_simp; done) | (go_simp; omega)) rfl rfl c0 hl0.out ?_) | ((with_reducible show wpList _ _ _ (Oper.mk _ (Op.load _ _) _ _ _ _ :: _) _ _); refine wl_ldAw (s := shPlan) (cs := c3_0) (by first | rfl | (go_simp; done) | (go_simp; omega)) rfl rfl cx4 hxc3_0.out ?_) | ((with_reducible show wpList _ _ _ (Oper.mk _ (Op.load _ _) _ _ _ _ :: _) _ _); refine wl_ldAw (s := shModel) (cs := c5) (by first | rfl | (go_simp; done) | (go_simp; omega)) rfl rfl cx6 hxc5.out ?_) | ((with_reducible show wpList _ _ _ (Oper.mk _ (Op.store _ _ _) _ _ _ _ :: _) _ _); refine wl_stA (s := shPlan) (cs := c7_0) rfl rfl rfl rfl (by first | exact heap_alloc_new _ _ | exact heap_alloc_old2 _ _ _) rfl hxc7_0.out hyc7_0.out (by decide) ?_; intro wc8 cx8 ch8; have E8 := (Ext.of_chg1 ch8); have mc8 := s; replace e0 := e0.trans (E8); replace s := Nat.le_trans s (Ext.size (E8)); replace c0 := c0.ext (E8); replace o2 := o2.ext (E8); replace o3_0 := o3_0.ext (E8); replace cx4 := cx4.ext (E8); replace o5 := o5.ext (E8); replace cx6 := cx6.ext (E8); replace o7_0 := o7_0.ext (E8); replace r0 := h0.ext e0; have vl8 := Cs.blkLt cx8 (by rw [hxc7_0.out]; decide); obtain ⟨Nc8, hNc8⟩ : ∃ N, N = wc8.heap.size := ⟨_, rfl⟩; rw [← hNc8] at vl8; have s := Nat.le_of_eq hNc8; clear E8 ch8) | ((with_reducible show wpList _ _ _ (Oper.mk _ (Op.load _ _) _ _ _ _ :: _) _ _); refine wl_ldAw (s := shPlan) (cs := c7_0) (by first | rfl | (go_simp; done) | (go_simp; omega)) rfl rfl cx8 hxc7_0.out ?_))
  refine (eqPlan_ok c7_0 c3_0 R0 _ (o7_0.rep) (o3_0.rep) hbr0).mono ?_
  rintro e w9 ⟨rfl, e9⟩
  replace e0 := e0.trans (e9)
  replace s := Nat.le_trans s (Ext.size (e9))
  replace c0 := c0.ext (e9)
  replace o2 := o2.ext (e9)
  replace o3_0 := o3_0.ext (e9)
  replace cx4 := cx4.ext (e9)
  replace o5 := o5.ext (e9)
  replace cx6 := cx6.ext (e9)
  replace o7_0 := o7_0.ext (e9)
  replace cx8 := cx8.ext (e9)
  replace r0 := h0.ext e0
  clear e9
  go_wp2_with (first | ((with_reducible show wpList _ _ _ (Oper.mk _ (Op.load _ _) _ _ _ _ :: _) _ _); refine wl_ldAw (s := shModel) (cs := cs0) (by first | rfl | (go_simp; done) | (go_simp; omega)) rfl rfl c0 hl0.out ?_) | ((with_reducible show wpList _ _ _ (Oper.mk _ (Op.load _ _) _ _ _ _ :: _) _ _); refine wl_ldAw (s := shPlan) (cs := c3_0) (by first | rfl | (go_simp; done) | (go_simp; omega)) rfl rfl cx4 hxc3_0.out ?_) | ((with_reducible show wpList _ _ _ (Oper.mk _ (Op.load _ _) _ _ _ _ :: _) _ _); refine wl_ldAw (s := shModel) (cs := c5) (by first | rfl | (go_simp; done) | (go_simp; omega)) rfl rfl cx6 hxc5.out ?_) | ((with_reducible show wpList _ _ _ (Oper.mk _ (Op.load _ _) _ _ _ _ :: _) _ _); refine wl_ldAw (s := shPlan) (cs := c7_0) (by first | rfl | (go_simp; done) | (go_simp; omega)) rfl rfl cx8 hxc7_0.out ?_))
  replace e0 := e0.trans ((Ext.drew _))
  replace s := Nat.le_trans s (Ext.size ((Ext.drew _)))
  replace c0 := c0.ext ((Ext.drew _))
  replace o2 := o2.ext ((Ext.drew _))
  replace o3_0 := o3_0.ext ((Ext.drew _))
  replace cx4 := cx4.ext ((Ext.drew _))
  replace o5 := o5.ext ((Ext.drew _))
  replace cx6 := cx6.ext ((Ext.drew _))
  replace o7_0 := o7_0.ext ((Ext.drew _))
  replace cx8 := cx8.ext ((Ext.drew _))
  replace r0 := h0.ext e0
  obtain ⟨F10, hF10⟩ : ∃ F : Option Tmp → World → Value → Prop, F = fun d W u => (match d with | some 43 => ∃ cs', u = ofCs shModel cs' ∧ Rep W shModel cs' D0 | _ => True) := ⟨_, rfl⟩
  have HF10 := hid hF10
  clear hF10
  refine wp_region_xt 3 (F := F10) (by kernel_rfl) (by kernel_rfl) (by kernel_rfl) (by kernel_rfl) (by kernel_rfl) ?_
  intro wf hwf
  simp only [List.take_succ_cons, List.take_zero, List.drop_succ_cons, List.drop_zero]
  first | (refine x_ldA (s := shModel) (cs := cs0) rfl rfl rfl c0 hl0.out ?_) | (refine x_ldA (s := shPlan) (cs := c3_0) rfl rfl rfl cx4 hxc3_0.out ?_) | (refine x_ldA (s := shModel) (cs := c5) rfl rfl rfl cx6 hxc5.out ?_) | (refine x_ldA (s := shPlan) (cs := c7_0) rfl rfl rfl cx8 hxc7_0.out ?_)
  simp only [Act.put, ev_tmp, List.setIfInBounds_toArray, List.set_cons_succ, List.set_cons_zero, List.getD_cons_succ, List.getD_cons_zero]
  first | (refine x_ldA (s := shModel) (cs := cs0) rfl rfl rfl c0 hl0.out ?_) | (refine x_ldA (s := shPlan) (cs := c3_0) rfl rfl rfl cx4 hxc3_0.out ?_) | (refine x_ldA (s := shModel) (cs := c5) rfl rfl rfl cx6 hxc5.out ?_) | (refine x_ldA (s := shPlan) (cs := c7_0) rfl rfl rfl cx8 hxc7_0.out ?_)
  simp only [Act.put, ev_tmp, List.setIfInBounds_toArray, List.set_cons_succ, List.set_cons_zero, List.getD_cons_succ, List.getD_cons_zero]
  refine x_callf (f := 14) (args := #[ofCs shModel cs0]) rfl rfl Try.func14 rfl (by kernel_rfl) ?_ ?_ ?_; (focus (simp [Act.eval]; done)); (focus (intro w1 hw1; exact ((toModel_ok cs0 D0 w1 (r0.ext hw1) hb0).mono fun e w3 ⟨cs3, bs3, g1, g2, _, _, g3⟩ => ⟨_, g1, g3, by rw [HF10.out]; exact ⟨cs3, rfl, g2.rep⟩⟩))); rintro u w3 e3 e4 hu; simp only [HF10.out] at hu; obtain ⟨cz11, rfl, rz11⟩ := hu; replace rz11 := rz11.ext e4
  simp only [Act.put, ev_tmp, List.setIfInBounds_toArray, List.set_cons_succ, List.set_cons_zero, List.getD_cons_succ, List.getD_cons_zero]
  refine x_nil ?_
  replace e0 := e0.trans (hwf)
  replace s := Nat.le_trans s (Ext.size (hwf))
  replace c0 := c0.ext (hwf)
  replace o2 := o2.ext (hwf)
  replace o3_0 := o3_0.ext (hwf)
  replace cx4 := cx4.ext (hwf)
  replace o5 := o5.ext (hwf)
  replace cx6 := cx6.ext (hwf)
  replace o7_0 := o7_0.ext (hwf)
  replace cx8 := cx8.ext (hwf)
  replace r0 := h0.ext e0
  clear hwf
  go_wp2_with fail
  refine (eqModel_ok c5 cz11 D0 _ (o5.rep) (rz11) hb0).mono ?_
  rintro e w12 ⟨rfl, e12⟩
  replace e0 := e0.trans (e12)
  replace s := Nat.le_trans s (Ext.size (e12))
  replace c0 := c0.ext (e12)
  replace o2 := o2.ext (e12)
  replace o3_0 := o3_0.ext (e12)
  replace cx4 := cx4.ext (e12)
  replace o5 := o5.ext (e12)
  replace cx6 := cx6.ext (e12)
  replace o7_0 := o7_0.ext (e12)
  replace cx8 := cx8.ext (e12)
  replace rz11 := rz11.ext (e12)
  replace r0 := h0.ext e0
  clear e12
  go_wp2_with (first | ((with_reducible show wpList _ _ _ (Oper.mk _ (Op.load _ _) _ _ _ _ :: _) _ _); refine wl_ldAw (s := shModel) (cs := cs0) (by first | rfl | (go_simp; done) | (go_simp; omega)) rfl rfl c0 hl0.out ?_) | ((with_reducible show wpList _ _ _ (Oper.mk _ (Op.load _ _) _ _ _ _ :: _) _ _); refine wl_ldAw (s := shPlan) (cs := c3_0) (by first | rfl | (go_simp; done) | (go_simp; omega)) rfl rfl cx4 hxc3_0.out ?_) | ((with_reducible show wpList _ _ _ (Oper.mk _ (Op.load _ _) _ _ _ _ :: _) _ _); refine wl_ldAw (s := shModel) (cs := c5) (by first | rfl | (go_simp; done) | (go_simp; omega)) rfl rfl cx6 hxc5.out ?_) | ((with_reducible show wpList _ _ _ (Oper.mk _ (Op.load _ _) _ _ _ _ :: _) _ _); refine wl_ldAw (s := shPlan) (cs := c7_0) (by first | rfl | (go_simp; done) | (go_simp; omega)) rfl rfl cx8 hxc7_0.out ?_))
  have mb13 := mkV_bd shModel (by decide) D0 1
  refine (markModel_ok c5 D0 b5 1 _ o5 nd5 (by omega) (by omega)).mono ?_
  rintro e w13 ⟨rfl, o13m, ch13⟩
  replace e0 := e0.chg ch13 fun b hb => by have := lo5 b hb; omega
  replace s := Nat.le_trans s (Chg.size ch13)
  replace c0 := Cs.chgB c0 ch13 (Cs.blkLt c0 (by rw [hl0.out]; decide)) (fun h => by have := lo5 _ h; have := lt5 _ h; omega)
  replace o2 := o2.chg ch13 (fun b hb h => by have := lo2 b hb; have := lt2 b hb; have := lo5 b h; have := lt5 b h; omega)
  replace o3_0 := o3_0.chg ch13 (fun b hb h => by have := lo3_0 b hb; have := lt3_0 b hb; have := lo5 b h; have := lt5 b h; omega)
  replace cx4 := Cs.chgB cx4 ch13 (Cs.blkLt cx4 (by rw [hxc3_0.out]; decide)) (fun h => by have := lo5 _ h; have := lt5 _ h; omega)
  replace cx6 := Cs.chgB cx6 ch13 (Cs.blkLt cx6 (by rw [hxc5.out]; decide)) (fun h => by have := lo5 _ h; have := lt5 _ h; omega)
  replace o7_0 := o7_0.chg ch13 (fun b hb h => by have := lo7_0 b hb; have := lt7_0 b hb; have := lo5 b h; have := lt5 b h; omega)
  replace cx8 := Cs.chgB cx8 ch13 (Cs.blkLt cx8 (by rw [hxc7_0.out]; decide)) (fun h => by have := lo5 _ h; have := lt5 _ h; omega)
  clear rz11
  replace r0 := h0.ext e0
  clear o5 ch13
  obtain ⟨k13, hk13⟩ : ∃ k, k = (mkV shModel D0 1).2 := ⟨_, rfl⟩
  rw [← hk13] at mb13 ⊢
  have HK13 := hid hk13
  clear hk13
  go_wp2_with (first | ((with_reducible show wpList _ _ _ (Oper.mk _ (Op.load _ _) _ _ _ _ :: _) _ _); refine wl_ldAw (s := shModel) (cs := cs0) (by first | rfl | (go_simp; done) | (go_simp; omega)) rfl rfl c0 hl0.out ?_) | ((with_reducible show wpList _ _ _ (Oper.mk _ (Op.load _ _) _ _ _ _ :: _) _ _); refine wl_ldAw (s := shPlan) (cs := c3_0) (by first | rfl | (go_simp; done) | (go_simp; omega)) rfl rfl cx4 hxc3_0.out ?_) | ((with_reducible show wpList _ _ _ (Oper.mk _ (Op.load _ _) _ _ _ _ :: _) _ _); refine wl_ldAw (s := shModel) (cs := c5) (by first | rfl | (go_simp; done) | (go_simp; omega)) rfl rfl cx6 hxc5.out ?_) | ((with_reducible show wpList _ _ _ (Oper.mk _ (Op.load _ _) _ _ _ _ :: _) _ _); refine wl_ldAw (s := shPlan) (cs := c7_0) (by first | rfl | (go_simp; done) | (go_simp; omega)) rfl rfl cx8 hxc7_0.out ?_))
  refine (eqPlan_ok c7_0 c3_0 R0 _ (o7_0.rep) (o3_0.rep) hbr0).mono ?_
  rintro e w14 ⟨rfl, e14⟩
  replace e0 := e0.trans (e14)
  replace s := Nat.le_trans s (Ext.size (e14))
  replace c0 := c0.ext (e14)
  replace o2 := o2.ext (e14)
  replace o3_0 := o3_0.ext (e14)
  replace cx4 := cx4.ext (e14)
  replace cx6 := cx6.ext (e14)
  replace o7_0 := o7_0.ext (e14)
  replace cx8 := cx8.ext (e14)
  replace o13m := o13m.ext (e14)
  replace r0 := h0.ext e0
  clear e14
  go_wp2_with (first | ((with_reducible show wpList _ _ _ (Oper.mk _ (Op.load _ _) _ _ _ _ :: _) _ _); refine wl_ldAw (s := shModel) (cs := cs0) (by first | rfl | (go_simp; done) | (go_simp; omega)) rfl rfl c0 hl0.out ?_) | ((with_reducible show wpList _ _ _ (Oper.mk _ (Op.load _ _) _ _ _ _ :: _) _ _); refine wl_ldAw (s := shPlan) (cs := c3_0) (by first | rfl | (go_simp; done) | (go_simp; omega)) rfl rfl cx4 hxc3_0.out ?_) | ((with_reducible show wpList _ _ _ (Oper.mk _ (Op.load _ _) _ _ _ _ :: _) _ _); refine wl_ldAw (s := shModel) (cs := c5) (by first | rfl | (go_simp; done) | (go_simp; omega)) rfl rfl cx6 hxc5.out ?_) | ((with_reducible show wpList _ _ _ (Oper.mk _ (Op.load _ _) _ _ _ _ :: _) _ _); refine wl_ldAw (s := shPlan) (cs := c7_0) (by first | rfl | (go_simp; done) | (go_simp; omega)) rfl rfl cx8 hxc7_0.out ?_))
  have mb15 := mkV_bd shPlan (by decide) R0 1
  refine (markPlan_ok c7_0 R0 b7_0 1 _ o7_0 nd7_0 (by omega) (by omega)).mono ?_
  rintro e w15 ⟨rfl, o15m, ch15⟩
  replace e0 := e0.chg ch15 fun b hb => by have := lo7_0 b hb; omega
  replace s := Nat.le_trans s (Chg.size ch15)
  replace c0 := Cs.chgB c0 ch15 (Cs.blkLt c0 (by rw [hl0.out]; decide)) (fun h => by have := lo7_0 _ h; have := lt7_0 _ h; omega)
  replace o2 := o2.chg ch15 (fun b hb h => by have := lo2 b hb; have := lt2 b hb; have := lo7_0 b h; have := lt7_0 b h; omega)
  replace o3_0 := o3_0.chg ch15 (fun b hb h => by have := lo3_0 b hb; have := lt3_0 b hb; have := lo7_0 b h; have := lt7_0 b h; omega)
  replace cx4 := Cs.chgB cx4 ch15 (Cs.blkLt cx4 (by rw [hxc3_0.out]; decide)) (fun h => by have := lo7_0 _ h; have := lt7_0 _ h; omega)
  replace cx6 := Cs.chgB cx6 ch15 (Cs.blkLt cx6 (by rw [hxc5.out]; decide)) (fun h => by have := lo7_0 _ h; have := lt7_0 _ h; omega)
  replace cx8 := Cs.chgB cx8 ch15 (Cs.blkLt cx8 (by rw [hxc7_0.out]; decide)) (fun h => by have := lo7_0 _ h; have := lt7_0 _ h; omega)
  replace o13m := o13m.chg ch15 (fun b hb h => by have := lo5 b hb; have := lt5 b hb; have := lo7_0 b h; have := lt7_0 b h; omega)
  replace r0 := h0.ext e0
  clear o7_0 ch15
  obtain ⟨k15, hk15⟩ : ∃ k, k = (mkV shPlan R0 1).2 := ⟨_, rfl⟩
  rw [← hk15] at mb15 ⊢
  have HK15 := hid hk15
  clear hk15
  go_wp2_with (first | ((with_reducible show wpList _ _ _ (Oper.mk _ (Op.load _ _) _ _ _ _ :: _) _ _); refine wl_ldAw (s := shModel) (cs := cs0) (by first | rfl | (go_simp; done) | (go_simp; omega)) rfl rfl c0 hl0.out ?_) | ((with_reducible show wpList _ _ _ (Oper.mk _ (Op.load _ _) _ _ _ _ :: _) _ _); refine wl_ldAw (s := shPlan) (cs := c3_0) (by first | rfl | (go_simp; done) | (go_simp; omega)) rfl rfl cx4 hxc3_0.out ?_) | ((with_reducible show wpList _ _ _ (Oper.mk _ (Op.load _ _) _ _ _ _ :: _) _ _); refine wl_ldAw (s := shModel) (cs := c5) (by first | rfl | (go_simp; done) | (go_simp; omega)) rfl rfl cx6 hxc5.out ?_) | ((with_reducible show wpList _ _ _ (Oper.mk _ (Op.load _ _) _ _ _ _ :: _) _ _); refine wl_ldAw (s := shPlan) (cs := c7_0) (by first | rfl | (go_simp; done) | (go_simp; omega)) rfl rfl cx8 hxc7_0.out ?_))
  refine (heldPlan_ok c7_0 R0 1 _ o15m.rep (by omega) (by omega)).mono ?_
  rintro e w16 ⟨rfl, e16⟩
  replace e0 := e0.trans (e16)
  replace s := Nat.le_trans s (Ext.size (e16))
  replace c0 := c0.ext (e16)
  replace o2 := o2.ext (e16)
  replace o3_0 := o3_0.ext (e16)
  replace cx4 := cx4.ext (e16)
  replace cx6 := cx6.ext (e16)
  replace cx8 := cx8.ext (e16)
  replace o13m := o13m.ext (e16)
  replace o15m := o15m.ext (e16)
  replace r0 := h0.ext e0
  clear e16
  rw [← HK15.out]
  go_wp2_with (first | ((with_reducible show wpList _ _ _ (Oper.mk _ (Op.load _ _) _ _ _ _ :: _) _ _); refine wl_ldAw (s := shModel) (cs := cs0) (by first | rfl | (go_simp; done) | (go_simp; omega)) rfl rfl c0 hl0.out ?_) | ((with_reducible show wpList _ _ _ (Oper.mk _ (Op.load _ _) _ _ _ _ :: _) _ _); refine wl_ldAw (s := shPlan) (cs := c3_0) (by first | rfl | (go_simp; done) | (go_simp; omega)) rfl rfl cx4 hxc3_0.out ?_) | ((with_reducible show wpList _ _ _ (Oper.mk _ (Op.load _ _) _ _ _ _ :: _) _ _); refine wl_ldAw (s := shModel) (cs := c5) (by first | rfl | (go_simp; done) | (go_simp; omega)) rfl rfl cx6 hxc5.out ?_) | ((with_reducible show wpList _ _ _ (Oper.mk _ (Op.load _ _) _ _ _ _ :: _) _ _); refine wl_ldAw (s := shPlan) (cs := c7_0) (by first | rfl | (go_simp; done) | (go_simp; omega)) rfl rfl cx8 hxc7_0.out ?_))
  refine (toModel_ok cs0 D0 _ r0 hb0).mono ?_
  rintro e w17 ⟨c17, b17, rfl, o17, nd17, lo17, e17⟩
  have m17 := s
  have sz17 := Ext.size e17
  have lt17 := Own.lt o17
  replace e0 := e0.trans (e17)
  replace s := Nat.le_trans s (Ext.size (e17))
  replace c0 := c0.ext (e17)
  replace o2 := o2.ext (e17)
  replace o3_0 := o3_0.ext (e17)
  replace cx4 := cx4.ext (e17)
  replace cx6 := cx6.ext (e17)
  replace cx8 := cx8.ext (e17)
  replace o13m := o13m.ext (e17)
  replace o15m := o15m.ext (e17)
  replace r0 := h0.ext e0
  clear e17
  obtain ⟨N17, hN17⟩ : ∃ N, N = w17.heap.size := ⟨_, rfl⟩
  rw [← hN17] at sz17 lt17
  have s := Nat.le_of_eq hN17
  have hxc17 := hid o17.rep.size
  have hyc17 := hid o17.rep.one
  go_wp2_with (first | ((with_reducible show wpList _ _ _ (Oper.mk _ (Op.load _ _) _ _ _ _ :: _) _ _); refine wl_ldAw (s := shModel) (cs := cs0) (by first | rfl | (go_simp; done) | (go_simp; omega)) rfl rfl c0 hl0.out ?_) | ((with_reducible show wpList _ _ _ (Oper.mk _ (Op.load _ _) _ _ _ _ :: _) _ _); refine wl_ldAw (s := shPlan) (cs := c3_0) (by first | rfl | (go_simp; done) | (go_simp; omega)) rfl rfl cx4 hxc3_0.out ?_) | ((with_reducible show wpList _ _ _ (Oper.mk _ (Op.load _ _) _ _ _ _ :: _) _ _); refine wl_ldAw (s := shModel) (cs := c5) (by first | rfl | (go_simp; done) | (go_simp; omega)) rfl rfl cx6 hxc5.out ?_) | ((with_reducible show wpList _ _ _ (Oper.mk _ (Op.load _ _) _ _ _ _ :: _) _ _); refine wl_ldAw (s := shPlan) (cs := c7_0) (by first | rfl | (go_simp; done) | (go_simp; omega)) rfl rfl cx8 hxc7_0.out ?_))
  refine (K.out c17 _ o17.rep f0).mono ?_
  rintro e w18 ⟨c18_0, b18_0, rfl, o18_0, nd18_0, lo18_0, _, e18⟩
  dsimp only at o18_0
  have m18 := s
  have sz18 := Ext.size e18
  have lt18_0 := Own.lt o18_0
  replace e0 := e0.trans (e18)
  replace s := Nat.le_trans s (Ext.size (e18))
  replace c0 := c0.ext (e18)
  replace o2 := o2.ext (e18)
  replace o3_0 := o3_0.ext (e18)
  replace cx4 := cx4.ext (e18)
  replace cx6 := cx6.ext (e18)
  replace cx8 := cx8.ext (e18)
  replace o13m := o13m.ext (e18)
  replace o15m := o15m.ext (e18)
  replace o17 := o17.ext (e18)
  replace r0 := h0.ext e0
  clear e18
  obtain ⟨N18, hN18⟩ : ∃ N, N = w18.heap.size := ⟨_, rfl⟩
  rw [← hN18] at sz18 lt18_0
  have s := Nat.le_of_eq hN18
  have hxc18_0 := hid o18_0.rep.size
  have hyc18_0 := hid o18_0.rep.one
  go_wp2_with (first | ((with_reducible show wpList _ _ _ (Oper.mk _ (Op.load _ _) _ _ _ _ :: _) _ _); refine wl_ldAw (s := shModel) (cs := cs0) (by first | rfl | (go_simp; done) | (go_simp; omega)) rfl rfl c0 hl0.out ?_) | ((with_reducible show wpList _ _ _ (Oper.mk _ (Op.load _ _) _ _ _ _ :: _) _ _); refine wl_ldAw (s := shPlan) (cs := c3_0) (by first | rfl | (go_simp; done) | (go_simp; omega)) rfl rfl cx4 hxc3_0.out ?_) | ((with_reducible show wpList _ _ _ (Oper.mk _ (Op.load _ _) _ _ _ _ :: _) _ _); refine wl_ldAw (s := shModel) (cs := c5) (by first | rfl | (go_simp; done) | (go_simp; omega)) rfl rfl cx6 hxc5.out ?_) | ((with_reducible show wpList _ _ _ (Oper.mk _ (Op.load _ _) _ _ _ _ :: _) _ _); refine wl_ldAw (s := shPlan) (cs := c7_0) (by first | rfl | (go_simp; done) | (go_simp; omega)) rfl rfl cx8 hxc7_0.out ?_) | ((with_reducible show wpList _ _ _ (Oper.mk _ (Op.store _ _ _) _ _ _ _ :: _) _ _); refine wl_stA (s := shPlan) (cs := c18_0) rfl rfl rfl rfl (by first | exact heap_alloc_new _ _ | exact heap_alloc_old2 _ _ _) rfl hxc18_0.out hyc18_0.out (by decide) ?_; intro wc19 cx19 ch19; have E19 := (Ext.of_chg1 ch19); have mc19 := s; replace e0 := e0.trans (E19); replace s := Nat.le_trans s (Ext.size (E19)); replace c0 := c0.ext (E19); replace o2 := o2.ext (E19); replace o3_0 := o3_0.ext (E19); replace cx4 := cx4.ext (E19); replace cx6 := cx6.ext (E19); replace cx8 := cx8.ext (E19); replace o13m := o13m.ext (E19); replace o15m := o15m.ext (E19); replace o17 := o17.ext (E19); replace o18_0 := o18_0.ext (E19); replace r0 := h0.ext e0; have vl19 := Cs.blkLt cx19 (by rw [hxc18_0.out]; decide); obtain ⟨Nc19, hNc19⟩ : ∃ N, N = wc19.heap.size := ⟨_, rfl⟩; rw [← hNc19] at vl19; have s := Nat.le_of_eq hNc19; clear E19 ch19) | ((with_reducible show wpList _ _ _ (Oper.mk _ (Op.load _ _) _ _ _ _ :: _) _ _); refine wl_ldAw (s := shPlan) (cs := c18_0) (by first | rfl | (go_simp; done) | (go_simp; omega)) rfl rfl cx19 hxc18_0.out ?_))
  refine (eqPlan_ok c18_0 c3_0 R0 _ (o18_0.rep) (o3_0.rep) hbr0).mono ?_
  rintro e w20 ⟨rfl, e20⟩
  replace e0 := e0.trans (e20)
  replace s := Nat.le_trans s (Ext.size (e20))
  replace c0 := c0.ext (e20)
  replace o2 := o2.ext (e20)
  replace o3_0 := o3_0.ext (e20)
  replace cx4 := cx4.ext (e20)
  replace cx6 := cx6.ext (e20)
  replace cx8 := cx8.ext (e20)
  replace o13m := o13m.ext (e20)
  replace o15m := o15m.ext (e20)
  replace o17 := o17.ext (e20)
  replace o18_0 := o18_0.ext (e20)
  replace cx19 := cx19.ext (e20)
  replace r0 := h0.ext e0
  clear e20
  go_wp2_with (first | ((with_reducible show wpList _ _ _ (Oper.mk _ (Op.load _ _) _ _ _ _ :: _) _ _); refine wl_ldAw (s := shModel) (cs := cs0) (by first | rfl | (go_simp; done) | (go_simp; omega)) rfl rfl c0 hl0.out ?_) | ((with_reducible show wpList _ _ _ (Oper.mk _ (Op.load _ _) _ _ _ _ :: _) _ _); refine wl_ldAw (s := shPlan) (cs := c3_0) (by first | rfl | (go_simp; done) | (go_simp; omega)) rfl rfl cx4 hxc3_0.out ?_) | ((with_reducible show wpList _ _ _ (Oper.mk _ (Op.load _ _) _ _ _ _ :: _) _ _); refine wl_ldAw (s := shModel) (cs := c5) (by first | rfl | (go_simp; done) | (go_simp; omega)) rfl rfl cx6 hxc5.out ?_) | ((with_reducible show wpList _ _ _ (Oper.mk _ (Op.load _ _) _ _ _ _ :: _) _ _); refine wl_ldAw (s := shPlan) (cs := c7_0) (by first | rfl | (go_simp; done) | (go_simp; omega)) rfl rfl cx8 hxc7_0.out ?_) | ((with_reducible show wpList _ _ _ (Oper.mk _ (Op.load _ _) _ _ _ _ :: _) _ _); refine wl_ldAw (s := shPlan) (cs := c18_0) (by first | rfl | (go_simp; done) | (go_simp; omega)) rfl rfl cx19 hxc18_0.out ?_))
  refine (heldPlan_ok c7_0 R0 1 _ o15m.rep (by omega) (by omega)).mono ?_
  rintro e w21 ⟨rfl, e21⟩
  replace e0 := e0.trans (e21)
  replace s := Nat.le_trans s (Ext.size (e21))
  replace c0 := c0.ext (e21)
  replace o2 := o2.ext (e21)
  replace o3_0 := o3_0.ext (e21)
  replace cx4 := cx4.ext (e21)
  replace cx6 := cx6.ext (e21)
  replace cx8 := cx8.ext (e21)
  replace o13m := o13m.ext (e21)
  replace o15m := o15m.ext (e21)
  replace o17 := o17.ext (e21)
  replace o18_0 := o18_0.ext (e21)
  replace cx19 := cx19.ext (e21)
  replace r0 := h0.ext e0
  clear e21
  rw [← HK15.out]
  go_wp2
  go_ret
  exact ⟨rfl, e0⟩
end Go.Proofs.Ytlimabbeaimdgaa.lCompileModel
