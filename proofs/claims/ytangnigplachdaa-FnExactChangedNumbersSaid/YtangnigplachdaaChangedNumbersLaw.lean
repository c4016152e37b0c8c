/- The law FnExactChangedNumbers answers true at every input. -/
import Derived.Test.YtangnigplachdaaChgd3
import Derived.Test.YtangnigplachdaaKb
import Derived.Test.YtangnigplachdaaKf
namespace Go.Proofs.Ytangnigplachdaa.lChangedNumbers
set_option linter.unusedSimpArgs false
set_option linter.unusedVariables false
open Go.RowKit

set_option maxRecDepth 100000 in
set_option maxHeartbeats 1000000 in
theorem law_any (cs0 : List Value) (D0 : Sh.T shTrainState) (cs1 : List Value) (D1 : Sh.T shTrainState) (w : World) (h0 : Rep w shTrainState cs0 D0) (h1 : Rep w shTrainState cs1 D1) (f0 : Fit shTrainState D0) (f1 : Fit shTrainState D1) : Calls Try.prog 13 #[ofCs shTrainState cs0, ofCs shTrainState cs1] w fun e w' => e = .returned (.bool true) ∧ Ext w w' := by
  have hl0 := hid h0.size
  have ho0 := hid h0.one
  have hl1 := hid h1.size
  have ho1 := hid h1.one
  have e0 := Ext.refl w
  obtain ⟨N0, hN0⟩ : ∃ N0, N0 = w.heap.size := ⟨_, rfl⟩
  have s := Nat.le_of_eq hN0
  have r0 := h0
  have r1 := h1
  go_enter Try.func13, Try.ntmps13
  go_wp2_with (first | ((with_reducible show wpList _ _ _ (Oper.mk _ (Op.box _ _) _ _ _ _ :: _) _ _); refine wl_box (s := shTrainState) (cs := cs0) rfl rfl rfl hl0.out ho0.out ?_; intro b0 v0 g0 vv0 c0; have mb0 := Nat.le_trans s vv0; replace e0 := e0.trans (g0); replace s := Nat.le_trans s (Ext.size (g0)); replace r0 := h0.ext e0; replace r1 := h1.ext e0; have vl0 := Cs.blkLt c0 (by rw [hl0.out]; decide); obtain ⟨Nb0, hNb0⟩ : ∃ N, N = v0.heap.size := ⟨_, rfl⟩; rw [← hNb0] at vl0; have s := Nat.le_of_eq hNb0) | ((with_reducible show wpList _ _ _ (Oper.mk _ (Op.box _ _) _ _ _ _ :: _) _ _); refine wl_box (s := shTrainState) (cs := cs1) rfl rfl rfl hl1.out ho1.out ?_; intro b1 v1 g1 vv1 c1; have mb1 := Nat.le_trans s vv1; replace e0 := e0.trans (g1); replace s := Nat.le_trans s (Ext.size (g1)); replace r0 := h0.ext e0; replace r1 := h1.ext e0; replace c0 := c0.ext g1; have vl1 := Cs.blkLt c1 (by rw [hl1.out]; decide); obtain ⟨Nb1, hNb1⟩ : ∃ N, N = v1.heap.size := ⟨_, rfl⟩; rw [← hNb1] at vl1; have s := Nat.le_of_eq hNb1) | ((with_reducible show wpList _ _ _ (Oper.mk _ (Op.load _ _) _ _ _ _ :: _) _ _); refine wl_ldAw (s := shTrainState) (cs := cs0) (by first | rfl | (go_simp; done) | (go_simp; omega)) rfl rfl c0 hl0.out ?_) | ((with_reducible show wpList _ _ _ (Oper.mk _ (Op.load _ _) _ _ _ _ :: _) _ _); refine wl_ldAw (s := shTrainState) (cs := cs1) (by first | rfl | (go_simp; done) | (go_simp; omega)) rfl rfl c1 hl1.out ?_))
  refine (szTrainState_ok cs0 D0 1048576 _ r0 (by omega) (by omega)).mono ?_
  rintro e w1 ⟨⟨s1, rfl, hs1⟩, e1⟩
  replace e0 := e0.trans (e1)
  replace s := Nat.le_trans s (Ext.size (e1))
  replace c0 := c0.ext (e1)
  replace c1 := c1.ext (e1)
  replace r0 := h0.ext e0
  replace r1 := h1.ext e0
  clear e1
  by_cases hn1 : s1 < 0
  · go_wp2
    go_ret
    exact ⟨rfl, e0⟩
  have hb0 : tot shTrainState D0 ≤ 1048576 := by rcases hs1 with h | h; exact absurd h hn1; omega
  have hz1 : 0 ≤ s1 := by omega
  have ht1 : s1 ≤ 1048576 := by rcases hs1 with h | h; exact absurd h hn1; omega
  clear hs1
  go_wp2_with (first | ((with_reducible show wpList _ _ _ (Oper.mk _ (Op.load _ _) _ _ _ _ :: _) _ _); refine wl_ldAw (s := shTrainState) (cs := cs0) (by first | rfl | (go_simp; done) | (go_simp; omega)) rfl rfl c0 hl0.out ?_) | ((with_reducible show wpList _ _ _ (Oper.mk _ (Op.load _ _) _ _ _ _ :: _) _ _); refine wl_ldAw (s := shTrainState) (cs := cs1) (by first | rfl | (go_simp; done) | (go_simp; omega)) rfl rfl c1 hl1.out ?_))
  refine (szTrainState_ok cs1 D1 s1 _ r1 (by omega) (by omega)).mono ?_
  rintro e w2 ⟨⟨s2, rfl, hs2⟩, e2⟩
  replace e0 := e0.trans (e2)
  replace s := Nat.le_trans s (Ext.size (e2))
  replace c0 := c0.ext (e2)
  replace c1 := c1.ext (e2)
  replace r0 := h0.ext e0
  replace r1 := h1.ext e0
  clear e2
  by_cases hn2 : s2 < 0
  · go_wp2
    go_ret
    exact ⟨rfl, e0⟩
  have hb1 : tot shTrainState D1 ≤ 1048576 := by rcases hs2 with h | h; exact absurd h hn2; omega
  have hz2 : 0 ≤ s2 := by omega
  have ht2 : s2 ≤ 1048576 := by rcases hs2 with h | h; exact absurd h hn2; omega
  clear hs2
  go_wp2_with (first | ((with_reducible show wpList _ _ _ (Oper.mk _ (Op.load _ _) _ _ _ _ :: _) _ _); refine wl_ldAw (s := shTrainState) (cs := cs0) (by first | rfl | (go_simp; done) | (go_simp; omega)) rfl rfl c0 hl0.out ?_) | ((with_reducible show wpList _ _ _ (Oper.mk _ (Op.load _ _) _ _ _ _ :: _) _ _); refine wl_ldAw (s := shTrainState) (cs := cs1) (by first | rfl | (go_simp; done) | (go_simp; omega)) rfl rfl c1 hl1.out ?_))
  replace e0 := e0.trans ((Ext.drew _))
  replace s := Nat.le_trans s (Ext.size ((Ext.drew _)))
  replace c0 := c0.ext ((Ext.drew _))
  replace c1 := c1.ext ((Ext.drew _))
  replace r0 := h0.ext e0
  replace r1 := h1.ext e0
  have hbr0 := res_bd D0 D1 hb0 hb1 f0 f1
  have KS := hid (fun y0 y1 W => spec_ok y0 D0 y1 D1 W)
  have K := hid (fun y0 y1 W => impl_ok y0 D0 y1 D1 W)
  generalize res D0 D1 = r at *
  obtain ⟨R0, R1⟩ := r
  dsimp only at hbr0
  obtain ⟨Nd3, hNd3, sNd3⟩ := ext_size e0
  rw [← hNd3] at s
  have md3 := s
  have s := sNd3
  obtain ⟨F3, hF3⟩ : ∃ F : Option Tmp → World → Value → Prop, F = fun d W u => (match d with | some 29 => ∃ cs', u = ofCs shTrainState cs' ∧ Rep W shTrainState cs' D0 | some 31 => ∃ cs', u = ofCs shTrainState cs' ∧ Rep W shTrainState cs' D1 | some 32 => ∃ cs' bs', u = .tuple #[ofCs (.sl .int) cs', .bool R1] ∧ Own W (.sl .int) cs' R0 bs' ∧ bs'.Nodup ∧ (∀ b ∈ bs', Nd3 ≤ b) | _ => True) := ⟨_, rfl⟩
  have HF3 := hid hF3
  clear hF3
  refine wp_region_xall (F := F3) (by kernel_rfl) (by kernel_rfl) (by kernel_rfl) ?_
  intro wf hwf
  first | (refine x_ldA (s := shTrainState) (cs := cs0) rfl rfl rfl c0 hl0.out ?_) | (refine x_ldA (s := shTrainState) (cs := cs1) rfl rfl rfl c1 hl1.out ?_)
  simp only [Act.put, ev_tmp, List.setIfInBounds_toArray, List.set_cons_succ, List.set_cons_zero, List.getD_cons_succ, List.getD_cons_zero]
  refine x_callf (f := 73) (args := #[ofCs shTrainState cs0]) rfl rfl Try.func73 rfl (by kernel_rfl) ?_ ?_ ?_; (focus (simp [Act.eval]; done)); (focus (intro w1 hw1; exact ((toTrainState_ok cs0 D0 w1 (r0.ext hw1) hb0).mono fun e w3 ⟨cs3, bs3, g1, g2, _, _, g3⟩ => ⟨_, g1, g3, by rw [HF3.out]; exact ⟨cs3, rfl, g2.rep⟩⟩))); rintro u w3 e3 e4 hu; simp only [HF3.out] at hu; obtain ⟨cz4, rfl, rz4⟩ := hu; clear rz4
  simp only [Act.put, ev_tmp, List.setIfInBounds_toArray, List.set_cons_succ, List.set_cons_zero, List.getD_cons_succ, List.getD_cons_zero]
  first | (refine x_ldA (s := shTrainState) (cs := cs0) rfl rfl rfl c0 hl0.out ?_) | (refine x_ldA (s := shTrainState) (cs := cs1) rfl rfl rfl c1 hl1.out ?_)
  simp only [Act.put, ev_tmp, List.setIfInBounds_toArray, List.set_cons_succ, List.set_cons_zero, List.getD_cons_succ, List.getD_cons_zero]
  refine x_callf (f := 73) (args := #[ofCs shTrainState cs1]) rfl rfl Try.func73 rfl (by kernel_rfl) ?_ ?_ ?_; (focus (simp [Act.eval]; done)); (focus (intro w1 hw1; exact ((toTrainState_ok cs1 D1 w1 (r1.ext hw1) hb1).mono fun e w3 ⟨cs3, bs3, g1, g2, _, _, g3⟩ => ⟨_, g1, g3, by rw [HF3.out]; exact ⟨cs3, rfl, g2.rep⟩⟩))); rintro u w3 e3 e4 hu; simp only [HF3.out] at hu; obtain ⟨cz5, rfl, rz5⟩ := hu; clear rz5
  simp only [Act.put, ev_tmp, List.setIfInBounds_toArray, List.set_cons_succ, List.set_cons_zero, List.getD_cons_succ, List.getD_cons_zero]
  refine x_callK (f := 72) (args := #[ofCs shTrainState cz4, ofCs shTrainState cz5]) rfl rfl Try.func72 rfl (by kernel_rfl) ?_ ?_ ?_; (focus (simp [Act.eval]; done)); (focus (intro w1 hw1 hK; exact (by (obtain ⟨wa0, ga0, gb0, gc0⟩ := known_call hK (j := 1) (d := 29) (by kernel_rfl) rfl rfl rfl rfl Try.func73 rfl (by kernel_rfl) (by simp); rw [HF3.out] at gc0; obtain ⟨ca0, hca0, ra0⟩ := gc0; have hcb0 : ofCs shTrainState cz4 = ofCs shTrainState ca0 := hca0; rw [hcb0]; obtain ⟨wa1, ga1, gb1, gc1⟩ := known_call hK (j := 3) (d := 31) (by kernel_rfl) rfl rfl rfl rfl Try.func73 rfl (by kernel_rfl) (by simp); rw [HF3.out] at gc1; obtain ⟨ca1, hca1, ra1⟩ := gc1; have hcb1 : ofCs shTrainState cz5 = ofCs shTrainState ca1 := hca1; rw [hcb1]; rw [HF3.out]; exact (KS.out ca0 ca1 w1 (ra0.ext gb0) (ra1.ext gb1) f0 f1).mono fun e w3 ⟨cs3, bs3, g1, g2, g3, g4, g6⟩ => ⟨_, g1, g6, ⟨cs3, bs3, rfl, g2, g3, fun b hb => Nat.le_trans (by rw [hNd3]; exact hw1.size) (g4 b hb)⟩⟩)))); rintro u w3 e3 e4 hu; simp only [HF3.out] at hu; obtain ⟨c6_0, b6_0, rfl, o6_0, nd6_0, lo6_0⟩ := hu; replace o6_0 := o6_0.ext e4
  simp only [Act.put, ev_tmp, List.setIfInBounds_toArray, List.set_cons_succ, List.set_cons_zero, List.getD_cons_succ, List.getD_cons_zero]
  refine x_mv rfl rfl rfl ?_
  simp only [Act.put, ev_tmp, List.setIfInBounds_toArray, List.set_cons_succ, List.set_cons_zero, List.getD_cons_succ, List.getD_cons_zero]
  refine x_run rfl fun K hK w1 _ => ?_
  go_simp
  refine hK _ ?_
  clear hK K
  refine x_run rfl fun K hK w1 _ => ?_
  go_simp
  refine hK _ ?_
  clear hK K
  refine x_as rfl rfl rfl ?_
  simp only [Act.put, ev_tmp, List.setIfInBounds_toArray, List.set_cons_succ, List.set_cons_zero, List.getD_cons_succ, List.getD_cons_zero]
  refine x_as rfl rfl rfl ?_
  simp only [Act.put, ev_tmp, List.setIfInBounds_toArray, List.set_cons_succ, List.set_cons_zero, List.getD_cons_succ, List.getD_cons_zero]
  refine x_nil ?_
  replace e0 := e0.trans (hwf)
  replace s := Nat.le_trans s (Ext.size (hwf))
  replace c0 := c0.ext (hwf)
  replace c1 := c1.ext (hwf)
  replace r0 := h0.ext e0
  replace r1 := h1.ext e0
  have lt6_0 := Own.lt o6_0
  have szf6 := Ext.size hwf
  obtain ⟨N6, hN6⟩ : ∃ N, N = wf.heap.size := ⟨_, rfl⟩
  rw [← hN6] at lt6_0 szf6 s
  have mm6 := s
  have s := Nat.le_of_eq hN6
  clear hwf
  obtain ⟨p_c6_0, q_c6_0, rfl, hm_c6_0⟩ := rep_val o6_0.rep
  simp only [ofCs, Sh.agg, List.headD_cons, Bool.false_eq_true, if_false]
  go_wp2_with (first | ((with_reducible show wpList _ _ _ (Oper.mk _ (Op.load _ _) _ _ _ _ :: _) _ _); refine wl_ldAw (s := shTrainState) (cs := cs0) (by first | rfl | (go_simp; done) | (go_simp; omega)) rfl rfl c0 hl0.out ?_) | ((with_reducible show wpList _ _ _ (Oper.mk _ (Op.load _ _) _ _ _ _ :: _) _ _); refine wl_ldAw (s := shTrainState) (cs := cs1) (by first | rfl | (go_simp; done) | (go_simp; omega)) rfl rfl c1 hl1.out ?_))
  refine (toTrainState_ok cs0 D0 _ r0 hb0).mono ?_
  rintro e w7 ⟨c7, b7, rfl, o7, nd7, lo7, e7⟩
  have m7 := s
  have sz7 := Ext.size e7
  have lt7 := Own.lt o7
  replace e0 := e0.trans (e7)
  replace s := Nat.le_trans s (Ext.size (e7))
  replace c0 := c0.ext (e7)
  replace c1 := c1.ext (e7)
  replace o6_0 := o6_0.ext (e7)
  replace r0 := h0.ext e0
  replace r1 := h1.ext e0
  clear e7
  obtain ⟨N7, hN7⟩ : ∃ N, N = w7.heap.size := ⟨_, rfl⟩
  rw [← hN7] at sz7 lt7
  have s := Nat.le_of_eq hN7
  have hxc7 := hid o7.rep.size
  have hyc7 := hid o7.rep.one
  go_wp2_with (first | ((with_reducible show wpList _ _ _ (Oper.mk _ (Op.load _ _) _ _ _ _ :: _) _ _); refine wl_ldAw (s := shTrainState) (cs := cs0) (by first | rfl | (go_simp; done) | (go_simp; omega)) rfl rfl c0 hl0.out ?_) | ((with_reducible show wpList _ _ _ (Oper.mk _ (Op.load _ _) _ _ _ _ :: _) _ _); refine wl_ldAw (s := shTrainState) (cs := cs1) (by first | rfl | (go_simp; done) | (go_simp; omega)) rfl rfl c1 hl1.out ?_) | ((with_reducible show wpList _ _ _ (Oper.mk _ (Op.store _ _ _) _ _ _ _ :: _) _ _); refine wl_stA (s := shTrainState) (cs := c7) rfl rfl rfl rfl (by first | exact heap_alloc_new _ _ | exact heap_alloc_old2 _ _ _) rfl hxc7.out hyc7.out (by decide) ?_; intro wc8 cx8 ch8; have E8 := (Ext.of_chg1 ch8); have mc8 := s; replace e0 := e0.trans (E8); replace s := Nat.le_trans s (Ext.size (E8)); replace c0 := c0.ext (E8); replace c1 := c1.ext (E8); replace o6_0 := o6_0.ext (E8); replace o7 := o7.ext (E8); replace r0 := h0.ext e0; replace r1 := h1.ext e0; have vl8 := Cs.blkLt cx8 (by rw [hxc7.out]; decide); obtain ⟨Nc8, hNc8⟩ : ∃ N, N = wc8.heap.size := ⟨_, rfl⟩; rw [← hNc8] at vl8; have s := Nat.le_of_eq hNc8; clear E8 ch8) | ((with_reducible show wpList _ _ _ (Oper.mk _ (Op.load _ _) _ _ _ _ :: _) _ _); refine wl_ldAw (s := shTrainState) (cs := c7) (by first | rfl | (go_simp; done) | (go_simp; omega)) rfl rfl cx8 hxc7.out ?_))
  refine (toTrainState_ok cs1 D1 _ r1 hb1).mono ?_
  rintro e w9 ⟨c9, b9, rfl, o9, nd9, lo9, e9⟩
  have m9 := s
  have sz9 := Ext.size e9
  have lt9 := Own.lt o9
  replace e0 := e0.trans (e9)
  replace s := Nat.le_trans s (Ext.size (e9))
  replace c0 := c0.ext (e9)
  replace c1 := c1.ext (e9)
  replace o6_0 := o6_0.ext (e9)
  replace o7 := o7.ext (e9)
  replace cx8 := cx8.ext (e9)
  replace r0 := h0.ext e0
  replace r1 := h1.ext e0
  clear e9
  obtain ⟨N9, hN9⟩ : ∃ N, N = w9.heap.size := ⟨_, rfl⟩
  rw [← hN9] at sz9 lt9
  have s := Nat.le_of_eq hN9
  have hxc9 := hid o9.rep.size
  have hyc9 := hid o9.rep.one
  go_wp2_with (first | ((with_reducible show wpList _ _ _ (Oper.mk _ (Op.load _ _) _ _ _ _ :: _) _ _); refine wl_ldAw (s := shTrainState) (cs := cs0) (by first | rfl | (go_simp; done) | (go_simp; omega)) rfl rfl c0 hl0.out ?_) | ((with_reducible show wpList _ _ _ (Oper.mk _ (Op.load _ _) _ _ _ _ :: _) _ _); refine wl_ldAw (s := shTrainState) (cs := cs1) (by first | rfl | (go_simp; done) | (go_simp; omega)) rfl rfl c1 hl1.out ?_) | ((with_reducible show wpList _ _ _ (Oper.mk _ (Op.load _ _) _ _ _ _ :: _) _ _); refine wl_ldAw (s := shTrainState) (cs := c7) (by first | rfl | (go_simp; done) | (go_simp; omega)) rfl rfl cx8 hxc7.out ?_) | ((with_reducible show wpList _ _ _ (Oper.mk _ (Op.store _ _ _) _ _ _ _ :: _) _ _); refine wl_stA (s := shTrainState) (cs := c9) rfl rfl rfl rfl (by first | exact heap_alloc_new _ _ | exact heap_alloc_old2 _ _ _) rfl hxc9.out hyc9.out (by decide) ?_; intro wc10 cx10 ch10; have E10 := (Ext.of_chg1 ch10); have mc10 := s; replace e0 := e0.trans (E10); replace s := Nat.le_trans s (Ext.size (E10)); replace c0 := c0.ext (E10); replace c1 := c1.ext (E10); replace o6_0 := o6_0.ext (E10); replace o7 := o7.ext (E10); replace cx8 := cx8.ext (E10); replace o9 := o9.ext (E10); replace r0 := h0.ext e0; replace r1 := h1.ext e0; have vl10 := Cs.blkLt cx10 (by rw [hxc9.out]; decide); obtain ⟨Nc10, hNc10⟩ : ∃ N, N = wc10.heap.size := ⟨_, rfl⟩; rw [← hNc10] at vl10; have s := Nat.le_of_eq hNc10; clear E10 ch10) | ((with_reducible show wpList _ _ _ (Oper.mk _ (Op.load _ _) _ _ _ _ :: _) _ _); refine wl_ldAw (s := shTrainState) (cs := c9) (by first | rfl | (go_simp; done) | (go_simp; omega)) rfl rfl cx10 hxc9.out ?_))
  refine (K.out c7 c9 _ o7.rep o9.rep f0 f1).mono ?_
  rintro e w11 ⟨c11_0, b11_0, rfl, o11_0, nd11_0, lo11_0, e11⟩
  dsimp only at o11_0
  have m11 := s
  have sz11 := Ext.size e11
  have lt11_0 := Own.lt o11_0
  replace e0 := e0.trans (e11)
  replace s := Nat.le_trans s (Ext.size (e11))
  replace c0 := c0.ext (e11)
  replace c1 := c1.ext (e11)
  replace o6_0 := o6_0.ext (e11)
  replace o7 := o7.ext (e11)
  replace cx8 := cx8.ext (e11)
  replace o9 := o9.ext (e11)
  replace cx10 := cx10.ext (e11)
  replace r0 := h0.ext e0
  replace r1 := h1.ext e0
  clear e11
  obtain ⟨N11, hN11⟩ : ∃ N, N = w11.heap.size := ⟨_, rfl⟩
  rw [← hN11] at sz11 lt11_0
  have s := Nat.le_of_eq hN11
  obtain ⟨p_c11_0, q_c11_0, rfl, hm_c11_0⟩ := rep_val o11_0.rep
  simp only [ofCs, Sh.agg, List.headD_cons, Bool.false_eq_true, if_false]
  go_wp2_with (first | ((with_reducible show wpList _ _ _ (Oper.mk _ (Op.load _ _) _ _ _ _ :: _) _ _); refine wl_ldAw (s := shTrainState) (cs := cs0) (by first | rfl | (go_simp; done) | (go_simp; omega)) rfl rfl c0 hl0.out ?_) | ((with_reducible show wpList _ _ _ (Oper.mk _ (Op.load _ _) _ _ _ _ :: _) _ _); refine wl_ldAw (s := shTrainState) (cs := cs1) (by first | rfl | (go_simp; done) | (go_simp; omega)) rfl rfl c1 hl1.out ?_) | ((with_reducible show wpList _ _ _ (Oper.mk _ (Op.load _ _) _ _ _ _ :: _) _ _); refine wl_ldAw (s := shTrainState) (cs := c7) (by first | rfl | (go_simp; done) | (go_simp; omega)) rfl rfl cx8 hxc7.out ?_) | ((with_reducible show wpList _ _ _ (Oper.mk _ (Op.load _ _) _ _ _ _ :: _) _ _); refine wl_ldAw (s := shTrainState) (cs := c9) (by first | rfl | (go_simp; done) | (go_simp; omega)) rfl rfl cx10 hxc9.out ?_))
  refine (eqInt64S_ok [.slice p_c11_0 (List.length R0) q_c11_0] [.slice p_c6_0 (List.length R0) q_c6_0] R0 _ (o11_0.rep) (o6_0.rep) hbr0).mono ?_
  rintro e w12 ⟨rfl, e12⟩
  replace e0 := e0.trans (e12)
  replace s := Nat.le_trans s (Ext.size (e12))
  replace c0 := c0.ext (e12)
  replace c1 := c1.ext (e12)
  replace o6_0 := o6_0.ext (e12)
  replace o7 := o7.ext (e12)
  replace cx8 := cx8.ext (e12)
  replace o9 := o9.ext (e12)
  replace cx10 := cx10.ext (e12)
  replace o11_0 := o11_0.ext (e12)
  replace r0 := h0.ext e0
  replace r1 := h1.ext e0
  clear e12
  go_wp2_with (first | ((with_reducible show wpList _ _ _ (Oper.mk _ (Op.load _ _) _ _ _ _ :: _) _ _); refine wl_ldAw (s := shTrainState) (cs := cs0) (by first | rfl | (go_simp; done) | (go_simp; omega)) rfl rfl c0 hl0.out ?_) | ((with_reducible show wpList _ _ _ (Oper.mk _ (Op.load _ _) _ _ _ _ :: _) _ _); refine wl_ldAw (s := shTrainState) (cs := cs1) (by first | rfl | (go_simp; done) | (go_simp; omega)) rfl rfl c1 hl1.out ?_) | ((with_reducible show wpList _ _ _ (Oper.mk _ (Op.load _ _) _ _ _ _ :: _) _ _); refine wl_ldAw (s := shTrainState) (cs := c7) (by first | rfl | (go_simp; done) | (go_simp; omega)) rfl rfl cx8 hxc7.out ?_) | ((with_reducible show wpList _ _ _ (Oper.mk _ (Op.load _ _) _ _ _ _ :: _) _ _); refine wl_ldAw (s := shTrainState) (cs := c9) (by first | rfl | (go_simp; done) | (go_simp; omega)) rfl rfl cx10 hxc9.out ?_))
  replace e0 := e0.trans ((Ext.drew _))
  replace s := Nat.le_trans s (Ext.size ((Ext.drew _)))
  replace c0 := c0.ext ((Ext.drew _))
  replace c1 := c1.ext ((Ext.drew _))
  replace o6_0 := o6_0.ext ((Ext.drew _))
  replace o7 := o7.ext ((Ext.drew _))
  replace cx8 := cx8.ext ((Ext.drew _))
  replace o9 := o9.ext ((Ext.drew _))
  replace cx10 := cx10.ext ((Ext.drew _))
  replace o11_0 := o11_0.ext ((Ext.drew _))
  replace r0 := h0.ext e0
  replace r1 := h1.ext e0
  obtain ⟨F13, hF13⟩ : ∃ F : Option Tmp → World → Value → Prop, F = fun d W u => (match d with | some 56 => ∃ cs', u = ofCs shTrainState cs' ∧ Rep W shTrainState cs' D0 | _ => True) := ⟨_, rfl⟩
  have HF13 := hid hF13
  clear hF13
  refine wp_region_xt 3 (F := F13) (by kernel_rfl) (by kernel_rfl) (by kernel_rfl) (by kernel_rfl) (by kernel_rfl) ?_
  intro wf hwf
  simp only [List.take_succ_cons, List.take_zero, List.drop_succ_cons, List.drop_zero]
  first | (refine x_ldA (s := shTrainState) (cs := cs0) rfl rfl rfl c0 hl0.out ?_) | (refine x_ldA (s := shTrainState) (cs := cs1) rfl rfl rfl c1 hl1.out ?_) | (refine x_ldA (s := shTrainState) (cs := c7) rfl rfl rfl cx8 hxc7.out ?_) | (refine x_ldA (s := shTrainState) (cs := c9) rfl rfl rfl cx10 hxc9.out ?_)
  simp only [Act.put, ev_tmp, List.setIfInBounds_toArray, List.set_cons_succ, List.set_cons_zero, List.getD_cons_succ, List.getD_cons_zero]
  first | (refine x_ldA (s := shTrainState) (cs := cs0) rfl rfl rfl c0 hl0.out ?_) | (refine x_ldA (s := shTrainState) (cs := cs1) rfl rfl rfl c1 hl1.out ?_) | (refine x_ldA (s := shTrainState) (cs := c7) rfl rfl rfl cx8 hxc7.out ?_) | (refine x_ldA (s := shTrainState) (cs := c9) rfl rfl rfl cx10 hxc9.out ?_)
  simp only [Act.put, ev_tmp, List.setIfInBounds_toArray, List.set_cons_succ, List.set_cons_zero, List.getD_cons_succ, List.getD_cons_zero]
  refine x_callf (f := 73) (args := #[ofCs shTrainState cs0]) rfl rfl Try.func73 rfl (by kernel_rfl) ?_ ?_ ?_; (focus (simp [Act.eval]; done)); (focus (intro w1 hw1; exact ((toTrainState_ok cs0 D0 w1 (r0.ext hw1) hb0).mono fun e w3 ⟨cs3, bs3, g1, g2, _, _, g3⟩ => ⟨_, g1, g3, by rw [HF13.out]; exact ⟨cs3, rfl, g2.rep⟩⟩))); rintro u w3 e3 e4 hu; simp only [HF13.out] at hu; obtain ⟨cz14, rfl, rz14⟩ := hu; replace rz14 := rz14.ext e4
  simp only [Act.put, ev_tmp, List.setIfInBounds_toArray, List.set_cons_succ, List.set_cons_zero, List.getD_cons_succ, List.getD_cons_zero]
  refine x_nil ?_
  replace e0 := e0.trans (hwf)
  replace s := Nat.le_trans s (Ext.size (hwf))
  replace c0 := c0.ext (hwf)
  replace c1 := c1.ext (hwf)
  replace o6_0 := o6_0.ext (hwf)
  replace o7 := o7.ext (hwf)
  replace cx8 := cx8.ext (hwf)
  replace o9 := o9.ext (hwf)
  replace cx10 := cx10.ext (hwf)
  replace o11_0 := o11_0.ext (hwf)
  replace r0 := h0.ext e0
  replace r1 := h1.ext e0
  clear hwf
  go_wp2_with fail
  refine (eqTrainState_ok c7 cz14 D0 _ (o7.rep) (rz14) hb0).mono ?_
  rintro e w15 ⟨rfl, e15⟩
  replace e0 := e0.trans (e15)
  replace s := Nat.le_trans s (Ext.size (e15))
  replace c0 := c0.ext (e15)
  replace c1 := c1.ext (e15)
  replace o6_0 := o6_0.ext (e15)
  replace o7 := o7.ext (e15)
  replace cx8 := cx8.ext (e15)
  replace o9 := o9.ext (e15)
  replace cx10 := cx10.ext (e15)
  replace o11_0 := o11_0.ext (e15)
  replace rz14 := rz14.ext (e15)
  replace r0 := h0.ext e0
  replace r1 := h1.ext e0
  clear e15
  go_wp2_with (first | ((with_reducible show wpList _ _ _ (Oper.mk _ (Op.load _ _) _ _ _ _ :: _) _ _); refine wl_ldAw (s := shTrainState) (cs := cs0) (by first | rfl | (go_simp; done) | (go_simp; omega)) rfl rfl c0 hl0.out ?_) | ((with_reducible show wpList _ _ _ (Oper.mk _ (Op.load _ _) _ _ _ _ :: _) _ _); refine wl_ldAw (s := shTrainState) (cs := cs1) (by first | rfl | (go_simp; done) | (go_simp; omega)) rfl rfl c1 hl1.out ?_) | ((with_reducible show wpList _ _ _ (Oper.mk _ (Op.load _ _) _ _ _ _ :: _) _ _); refine wl_ldAw (s := shTrainState) (cs := c7) (by first | rfl | (go_simp; done) | (go_simp; omega)) rfl rfl cx8 hxc7.out ?_) | ((with_reducible show wpList _ _ _ (Oper.mk _ (Op.load _ _) _ _ _ _ :: _) _ _); refine wl_ldAw (s := shTrainState) (cs := c9) (by first | rfl | (go_simp; done) | (go_simp; omega)) rfl rfl cx10 hxc9.out ?_))
  replace e0 := e0.trans ((Ext.drew _))
  replace s := Nat.le_trans s (Ext.size ((Ext.drew _)))
  replace c0 := c0.ext ((Ext.drew _))
  replace c1 := c1.ext ((Ext.drew _))
  replace o6_0 := o6_0.ext ((Ext.drew _))
  replace o7 := o7.ext ((Ext.drew _))
  replace cx8 := cx8.ext ((Ext.drew _))
  replace o9 := o9.ext ((Ext.drew _))
  replace cx10 := cx10.ext ((Ext.drew _))
  replace o11_0 := o11_0.ext ((Ext.drew _))
  replace rz14 := rz14.ext ((Ext.drew _))
  replace r0 := h0.ext e0
  replace r1 := h1.ext e0
  obtain ⟨F16, hF16⟩ : ∃ F : Option Tmp → World → Value → Prop, F = fun d W u => (match d with | some 61 => ∃ cs', u = ofCs shTrainState cs' ∧ Rep W shTrainState cs' D1 | _ => True) := ⟨_, rfl⟩
  have HF16 := hid hF16
  clear hF16
  refine wp_region_xt 3 (F := F16) (by kernel_rfl) (by kernel_rfl) (by kernel_rfl) (by kernel_rfl) (by kernel_rfl) ?_
  intro wf hwf
  simp only [List.take_succ_cons, List.take_zero, List.drop_succ_cons, List.drop_zero]
  first | (refine x_ldA (s := shTrainState) (cs := cs0) rfl rfl rfl c0 hl0.out ?_) | (refine x_ldA (s := shTrainState) (cs := cs1) rfl rfl rfl c1 hl1.out ?_) | (refine x_ldA (s := shTrainState) (cs := c7) rfl rfl rfl cx8 hxc7.out ?_) | (refine x_ldA (s := shTrainState) (cs := c9) rfl rfl rfl cx10 hxc9.out ?_)
  simp only [Act.put, ev_tmp, List.setIfInBounds_toArray, List.set_cons_succ, List.set_cons_zero, List.getD_cons_succ, List.getD_cons_zero]
  first | (refine x_ldA (s := shTrainState) (cs := cs0) rfl rfl rfl c0 hl0.out ?_) | (refine x_ldA (s := shTrainState) (cs := cs1) rfl rfl rfl c1 hl1.out ?_) | (refine x_ldA (s := shTrainState) (cs := c7) rfl rfl rfl cx8 hxc7.out ?_) | (refine x_ldA (s := shTrainState) (cs := c9) rfl rfl rfl cx10 hxc9.out ?_)
  simp only [Act.put, ev_tmp, List.setIfInBounds_toArray, List.set_cons_succ, List.set_cons_zero, List.getD_cons_succ, List.getD_cons_zero]
  refine x_callf (f := 73) (args := #[ofCs shTrainState cs1]) rfl rfl Try.func73 rfl (by kernel_rfl) ?_ ?_ ?_; (focus (simp [Act.eval]; done)); (focus (intro w1 hw1; exact ((toTrainState_ok cs1 D1 w1 (r1.ext hw1) hb1).mono fun e w3 ⟨cs3, bs3, g1, g2, _, _, g3⟩ => ⟨_, g1, g3, by rw [HF16.out]; exact ⟨cs3, rfl, g2.rep⟩⟩))); rintro u w3 e3 e4 hu; simp only [HF16.out] at hu; obtain ⟨cz17, rfl, rz17⟩ := hu; replace rz17 := rz17.ext e4
  simp only [Act.put, ev_tmp, List.setIfInBounds_toArray, List.set_cons_succ, List.set_cons_zero, List.getD_cons_succ, List.getD_cons_zero]
  refine x_nil ?_
  replace e0 := e0.trans (hwf)
  replace s := Nat.le_trans s (Ext.size (hwf))
  replace c0 := c0.ext (hwf)
  replace c1 := c1.ext (hwf)
  replace o6_0 := o6_0.ext (hwf)
  replace o7 := o7.ext (hwf)
  replace cx8 := cx8.ext (hwf)
  replace o9 := o9.ext (hwf)
  replace cx10 := cx10.ext (hwf)
  replace o11_0 := o11_0.ext (hwf)
  replace rz14 := rz14.ext (hwf)
  replace r0 := h0.ext e0
  replace r1 := h1.ext e0
  clear hwf
  go_wp2_with fail
  refine (eqTrainState_ok c9 cz17 D1 _ (o9.rep) (rz17) hb1).mono ?_
  rintro e w18 ⟨rfl, e18⟩
  replace e0 := e0.trans (e18)
  replace s := Nat.le_trans s (Ext.size (e18))
  replace c0 := c0.ext (e18)
  replace c1 := c1.ext (e18)
  replace o6_0 := o6_0.ext (e18)
  replace o7 := o7.ext (e18)
  replace cx8 := cx8.ext (e18)
  replace o9 := o9.ext (e18)
  replace cx10 := cx10.ext (e18)
  replace o11_0 := o11_0.ext (e18)
  replace rz14 := rz14.ext (e18)
  replace rz17 := rz17.ext (e18)
  replace r0 := h0.ext e0
  replace r1 := h1.ext e0
  clear e18
  go_wp2_with (first | ((with_reducible show wpList _ _ _ (Oper.mk _ (Op.load _ _) _ _ _ _ :: _) _ _); refine wl_ldAw (s := shTrainState) (cs := cs0) (by first | rfl | (go_simp; done) | (go_simp; omega)) rfl rfl c0 hl0.out ?_) | ((with_reducible show wpList _ _ _ (Oper.mk _ (Op.load _ _) _ _ _ _ :: _) _ _); refine wl_ldAw (s := shTrainState) (cs := cs1) (by first | rfl | (go_simp; done) | (go_simp; omega)) rfl rfl c1 hl1.out ?_) | ((with_reducible show wpList _ _ _ (Oper.mk _ (Op.load _ _) _ _ _ _ :: _) _ _); refine wl_ldAw (s := shTrainState) (cs := c7) (by first | rfl | (go_simp; done) | (go_simp; omega)) rfl rfl cx8 hxc7.out ?_) | ((with_reducible show wpList _ _ _ (Oper.mk _ (Op.load _ _) _ _ _ _ :: _) _ _); refine wl_ldAw (s := shTrainState) (cs := c9) (by first | rfl | (go_simp; done) | (go_simp; omega)) rfl rfl cx10 hxc9.out ?_))
  have mb19 := mkV_bd shTrainState (by decide) D0 1
  refine (markTrainState_ok c7 D0 b7 1 _ o7 nd7 (by omega) (by omega)).mono ?_
  rintro e w19 ⟨rfl, o19m, ch19⟩
  replace e0 := e0.chg ch19 fun b hb => by have := lo7 b hb; omega
  replace s := Nat.le_trans s (Chg.size ch19)
  replace c0 := Cs.chgB c0 ch19 (Cs.blkLt c0 (by rw [hl0.out]; decide)) (fun h => by have := lo7 _ h; have := lt7 _ h; omega)
  replace c1 := Cs.chgB c1 ch19 (Cs.blkLt c1 (by rw [hl1.out]; decide)) (fun h => by have := lo7 _ h; have := lt7 _ h; omega)
  replace o6_0 := o6_0.chg ch19 (fun b hb h => by have := lo6_0 b hb; have := lt6_0 b hb; have := lo7 b h; have := lt7 b h; omega)
  replace cx8 := Cs.chgB cx8 ch19 (Cs.blkLt cx8 (by rw [hxc7.out]; decide)) (fun h => by have := lo7 _ h; have := lt7 _ h; omega)
  replace o9 := o9.chg ch19 (fun b hb h => by have := lo9 b hb; have := lt9 b hb; have := lo7 b h; have := lt7 b h; omega)
  replace cx10 := Cs.chgB cx10 ch19 (Cs.blkLt cx10 (by rw [hxc9.out]; decide)) (fun h => by have := lo7 _ h; have := lt7 _ h; omega)
  replace o11_0 := o11_0.chg ch19 (fun b hb h => by have := lo11_0 b hb; have := lt11_0 b hb; have := lo7 b h; have := lt7 b h; omega)
  clear rz14
  clear rz17
  replace r0 := h0.ext e0
  replace r1 := h1.ext e0
  clear o7 ch19
  obtain ⟨k19, hk19⟩ : ∃ k, k = (mkV shTrainState D0 1).2 := ⟨_, rfl⟩
  rw [← hk19] at mb19 ⊢
  have HK19 := hid hk19
  clear hk19
  go_wp2_with (first | ((with_reducible show wpList _ _ _ (Oper.mk _ (Op.load _ _) _ _ _ _ :: _) _ _); refine wl_ldAw (s := shTrainState) (cs := cs0) (by first | rfl | (go_simp; done) | (go_simp; omega)) rfl rfl c0 hl0.out ?_) | ((with_reducible show wpList _ _ _ (Oper.mk _ (Op.load _ _) _ _ _ _ :: _) _ _); refine wl_ldAw (s := shTrainState) (cs := cs1) (by first | rfl | (go_simp; done) | (go_simp; omega)) rfl rfl c1 hl1.out ?_) | ((with_reducible show wpList _ _ _ (Oper.mk _ (Op.load _ _) _ _ _ _ :: _) _ _); refine wl_ldAw (s := shTrainState) (cs := c7) (by first | rfl | (go_simp; done) | (go_simp; omega)) rfl rfl cx8 hxc7.out ?_) | ((with_reducible show wpList _ _ _ (Oper.mk _ (Op.load _ _) _ _ _ _ :: _) _ _); refine wl_ldAw (s := shTrainState) (cs := c9) (by first | rfl | (go_simp; done) | (go_simp; omega)) rfl rfl cx10 hxc9.out ?_))
  have mb20 := mkV_bd shTrainState (by decide) D1 k19
  refine (markTrainState_ok c9 D1 b9 k19 _ o9 nd9 (by omega) (by omega)).mono ?_
  rintro e w20 ⟨rfl, o20m, ch20⟩
  replace e0 := e0.chg ch20 fun b hb => by have := lo9 b hb; omega
  replace s := Nat.le_trans s (Chg.size ch20)
  replace c0 := Cs.chgB c0 ch20 (Cs.blkLt c0 (by rw [hl0.out]; decide)) (fun h => by have := lo9 _ h; have := lt9 _ h; omega)
  replace c1 := Cs.chgB c1 ch20 (Cs.blkLt c1 (by rw [hl1.out]; decide)) (fun h => by have := lo9 _ h; have := lt9 _ h; omega)
  replace o6_0 := o6_0.chg ch20 (fun b hb h => by have := lo6_0 b hb; have := lt6_0 b hb; have := lo9 b h; have := lt9 b h; omega)
  replace cx8 := Cs.chgB cx8 ch20 (Cs.blkLt cx8 (by rw [hxc7.out]; decide)) (fun h => by have := lo9 _ h; have := lt9 _ h; omega)
  replace cx10 := Cs.chgB cx10 ch20 (Cs.blkLt cx10 (by rw [hxc9.out]; decide)) (fun h => by have := lo9 _ h; have := lt9 _ h; omega)
  replace o11_0 := o11_0.chg ch20 (fun b hb h => by have := lo11_0 b hb; have := lt11_0 b hb; have := lo9 b h; have := lt9 b h; omega)
  replace o19m := o19m.chg ch20 (fun b hb h => by have := lo7 b hb; have := lt7 b hb; have := lo9 b h; have := lt9 b h; omega)
  replace r0 := h0.ext e0
  replace r1 := h1.ext e0
  clear o9 ch20
  obtain ⟨k20, hk20⟩ : ∃ k, k = (mkV shTrainState D1 k19).2 := ⟨_, rfl⟩
  rw [← hk20] at mb20 ⊢
  have HK20 := hid hk20
  clear hk20
  go_wp2_with (first | ((with_reducible show wpList _ _ _ (Oper.mk _ (Op.load _ _) _ _ _ _ :: _) _ _); refine wl_ldAw (s := shTrainState) (cs := cs0) (by first | rfl | (go_simp; done) | (go_simp; omega)) rfl rfl c0 hl0.out ?_) | ((with_reducible show wpList _ _ _ (Oper.mk _ (Op.load _ _) _ _ _ _ :: _) _ _); refine wl_ldAw (s := shTrainState) (cs := cs1) (by first | rfl | (go_simp; done) | (go_simp; omega)) rfl rfl c1 hl1.out ?_) | ((with_reducible show wpList _ _ _ (Oper.mk _ (Op.load _ _) _ _ _ _ :: _) _ _); refine wl_ldAw (s := shTrainState) (cs := c7) (by first | rfl | (go_simp; done) | (go_simp; omega)) rfl rfl cx8 hxc7.out ?_) | ((with_reducible show wpList _ _ _ (Oper.mk _ (Op.load _ _) _ _ _ _ :: _) _ _); refine wl_ldAw (s := shTrainState) (cs := c9) (by first | rfl | (go_simp; done) | (go_simp; omega)) rfl rfl cx10 hxc9.out ?_))
  refine (eqInt64S_ok [.slice p_c11_0 (List.length R0) q_c11_0] [.slice p_c6_0 (List.length R0) q_c6_0] R0 _ (o11_0.rep) (o6_0.rep) hbr0).mono ?_
  rintro e w21 ⟨rfl, e21⟩
  replace e0 := e0.trans (e21)
  replace s := Nat.le_trans s (Ext.size (e21))
  replace c0 := c0.ext (e21)
  replace c1 := c1.ext (e21)
  replace o6_0 := o6_0.ext (e21)
  replace cx8 := cx8.ext (e21)
  replace cx10 := cx10.ext (e21)
  replace o11_0 := o11_0.ext (e21)
  replace o19m := o19m.ext (e21)
  replace o20m := o20m.ext (e21)
  replace r0 := h0.ext e0
  replace r1 := h1.ext e0
  clear e21
  go_wp2_with (first | ((with_reducible show wpList _ _ _ (Oper.mk _ (Op.load _ _) _ _ _ _ :: _) _ _); refine wl_ldAw (s := shTrainState) (cs := cs0) (by first | rfl | (go_simp; done) | (go_simp; omega)) rfl rfl c0 hl0.out ?_) | ((with_reducible show wpList _ _ _ (Oper.mk _ (Op.load _ _) _ _ _ _ :: _) _ _); refine wl_ldAw (s := shTrainState) (cs := cs1) (by first | rfl | (go_simp; done) | (go_simp; omega)) rfl rfl c1 hl1.out ?_) | ((with_reducible show wpList _ _ _ (Oper.mk _ (Op.load _ _) _ _ _ _ :: _) _ _); refine wl_ldAw (s := shTrainState) (cs := c7) (by first | rfl | (go_simp; done) | (go_simp; omega)) rfl rfl cx8 hxc7.out ?_) | ((with_reducible show wpList _ _ _ (Oper.mk _ (Op.load _ _) _ _ _ _ :: _) _ _); refine wl_ldAw (s := shTrainState) (cs := c9) (by first | rfl | (go_simp; done) | (go_simp; omega)) rfl rfl cx10 hxc9.out ?_))
  have mb22 := mkV_bd (.sl .int) (by decide) R0 1
  refine (markInt64S_ok [.slice p_c11_0 (List.length R0) q_c11_0] R0 b11_0 1 _ o11_0 nd11_0 (by omega) (by omega)).mono ?_
  rintro e w22 ⟨rfl, o22m, ch22⟩
  replace e0 := e0.chg ch22 fun b hb => by have := lo11_0 b hb; omega
  replace s := Nat.le_trans s (Chg.size ch22)
  replace c0 := Cs.chgB c0 ch22 (Cs.blkLt c0 (by rw [hl0.out]; decide)) (fun h => by have := lo11_0 _ h; have := lt11_0 _ h; omega)
  replace c1 := Cs.chgB c1 ch22 (Cs.blkLt c1 (by rw [hl1.out]; decide)) (fun h => by have := lo11_0 _ h; have := lt11_0 _ h; omega)
  replace o6_0 := o6_0.chg ch22 (fun b hb h => by have := lo6_0 b hb; have := lt6_0 b hb; have := lo11_0 b h; have := lt11_0 b h; omega)
  replace cx8 := Cs.chgB cx8 ch22 (Cs.blkLt cx8 (by rw [hxc7.out]; decide)) (fun h => by have := lo11_0 _ h; have := lt11_0 _ h; omega)
  replace cx10 := Cs.chgB cx10 ch22 (Cs.blkLt cx10 (by rw [hxc9.out]; decide)) (fun h => by have := lo11_0 _ h; have := lt11_0 _ h; omega)
  replace o19m := o19m.chg ch22 (fun b hb h => by have := lo7 b hb; have := lt7 b hb; have := lo11_0 b h; have := lt11_0 b h; omega)
  replace o20m := o20m.chg ch22 (fun b hb h => by have := lo9 b hb; have := lt9 b hb; have := lo11_0 b h; have := lt11_0 b h; omega)
  replace r0 := h0.ext e0
  replace r1 := h1.ext e0
  clear o11_0 ch22
  obtain ⟨k22, hk22⟩ : ∃ k, k = (mkV (.sl .int) R0 1).2 := ⟨_, rfl⟩
  rw [← hk22] at mb22 ⊢
  have HK22 := hid hk22
  clear hk22
  go_wp2_with (first | ((with_reducible show wpList _ _ _ (Oper.mk _ (Op.load _ _) _ _ _ _ :: _) _ _); refine wl_ldAw (s := shTrainState) (cs := cs0) (by first | rfl | (go_simp; done) | (go_simp; omega)) rfl rfl c0 hl0.out ?_) | ((with_reducible show wpList _ _ _ (Oper.mk _ (Op.load _ _) _ _ _ _ :: _) _ _); refine wl_ldAw (s := shTrainState) (cs := cs1) (by first | rfl | (go_simp; done) | (go_simp; omega)) rfl rfl c1 hl1.out ?_) | ((with_reducible show wpList _ _ _ (Oper.mk _ (Op.load _ _) _ _ _ _ :: _) _ _); refine wl_ldAw (s := shTrainState) (cs := c7) (by first | rfl | (go_simp; done) | (go_simp; omega)) rfl rfl cx8 hxc7.out ?_) | ((with_reducible show wpList _ _ _ (Oper.mk _ (Op.load _ _) _ _ _ _ :: _) _ _); refine wl_ldAw (s := shTrainState) (cs := c9) (by first | rfl | (go_simp; done) | (go_simp; omega)) rfl rfl cx10 hxc9.out ?_))
  refine (heldInt64S_ok [.slice p_c11_0 (List.length R0) q_c11_0] R0 1 _ o22m.rep (by omega) (by omega)).mono ?_
  rintro e w23 ⟨rfl, e23⟩
  replace e0 := e0.trans (e23)
  replace s := Nat.le_trans s (Ext.size (e23))
  replace c0 := c0.ext (e23)
  replace c1 := c1.ext (e23)
  replace o6_0 := o6_0.ext (e23)
  replace cx8 := cx8.ext (e23)
  replace cx10 := cx10.ext (e23)
  replace o19m := o19m.ext (e23)
  replace o20m := o20m.ext (e23)
  replace o22m := o22m.ext (e23)
  replace r0 := h0.ext e0
  replace r1 := h1.ext e0
  clear e23
  rw [← HK22.out]
  go_wp2_with (first | ((with_reducible show wpList _ _ _ (Oper.mk _ (Op.load _ _) _ _ _ _ :: _) _ _); refine wl_ldAw (s := shTrainState) (cs := cs0) (by first | rfl | (go_simp; done) | (go_simp; omega)) rfl rfl c0 hl0.out ?_) | ((with_reducible show wpList _ _ _ (Oper.mk _ (Op.load _ _) _ _ _ _ :: _) _ _); refine wl_ldAw (s := shTrainState) (cs := cs1) (by first | rfl | (go_simp; done) | (go_simp; omega)) rfl rfl c1 hl1.out ?_) | ((with_reducible show wpList _ _ _ (Oper.mk _ (Op.load _ _) _ _ _ _ :: _) _ _); refine wl_ldAw (s := shTrainState) (cs := c7) (by first | rfl | (go_simp; done) | (go_simp; omega)) rfl rfl cx8 hxc7.out ?_) | ((with_reducible show wpList _ _ _ (Oper.mk _ (Op.load _ _) _ _ _ _ :: _) _ _); refine wl_ldAw (s := shTrainState) (cs := c9) (by first | rfl | (go_simp; done) | (go_simp; omega)) rfl rfl cx10 hxc9.out ?_))
  replace e0 := e0.trans ((Ext.drew _))
  replace s := Nat.le_trans s (Ext.size ((Ext.drew _)))
  replace c0 := c0.ext ((Ext.drew _))
  replace c1 := c1.ext ((Ext.drew _))
  replace o6_0 := o6_0.ext ((Ext.drew _))
  replace cx8 := cx8.ext ((Ext.drew _))
  replace cx10 := cx10.ext ((Ext.drew _))
  replace o19m := o19m.ext ((Ext.drew _))
  replace o20m := o20m.ext ((Ext.drew _))
  replace o22m := o22m.ext ((Ext.drew _))
  replace r0 := h0.ext e0
  replace r1 := h1.ext e0
  obtain ⟨Nd24, hNd24, sNd24⟩ := ext_size e0
  rw [← hNd24] at s
  have md24 := s
  have s := sNd24
  obtain ⟨F24, hF24⟩ : ∃ F : Option Tmp → World → Value → Prop, F = fun d W u => (match d with | some 96 => ∃ cs', u = ofCs shTrainState cs' ∧ Rep W shTrainState cs' D0 | some 98 => ∃ cs', u = ofCs shTrainState cs' ∧ Rep W shTrainState cs' D1 | some 99 => ∃ cs' bs', u = .tuple #[ofCs (.sl .int) cs', .bool R1] ∧ Own W (.sl .int) cs' R0 bs' ∧ bs'.Nodup ∧ (∀ b ∈ bs', Nd24 ≤ b) | _ => True) := ⟨_, rfl⟩
  have HF24 := hid hF24
  clear hF24
  refine wp_region_xall (F := F24) (by kernel_rfl) (by kernel_rfl) (by kernel_rfl) ?_
  intro wf hwf
  first | (refine x_ldA (s := shTrainState) (cs := cs0) rfl rfl rfl c0 hl0.out ?_) | (refine x_ldA (s := shTrainState) (cs := cs1) rfl rfl rfl c1 hl1.out ?_) | (refine x_ldA (s := shTrainState) (cs := c7) rfl rfl rfl cx8 hxc7.out ?_) | (refine x_ldA (s := shTrainState) (cs := c9) rfl rfl rfl cx10 hxc9.out ?_)
  simp only [Act.put, ev_tmp, List.setIfInBounds_toArray, List.set_cons_succ, List.set_cons_zero, List.getD_cons_succ, List.getD_cons_zero]
  refine x_callf (f := 73) (args := #[ofCs shTrainState cs0]) rfl rfl Try.func73 rfl (by kernel_rfl) ?_ ?_ ?_; (focus (simp [Act.eval]; done)); (focus (intro w1 hw1; exact ((toTrainState_ok cs0 D0 w1 (r0.ext hw1) hb0).mono fun e w3 ⟨cs3, bs3, g1, g2, _, _, g3⟩ => ⟨_, g1, g3, by rw [HF24.out]; exact ⟨cs3, rfl, g2.rep⟩⟩))); rintro u w3 e3 e4 hu; simp only [HF24.out] at hu; obtain ⟨cz25, rfl, rz25⟩ := hu; clear rz25
  simp only [Act.put, ev_tmp, List.setIfInBounds_toArray, List.set_cons_succ, List.set_cons_zero, List.getD_cons_succ, List.getD_cons_zero]
  first | (refine x_ldA (s := shTrainState) (cs := cs0) rfl rfl rfl c0 hl0.out ?_) | (refine x_ldA (s := shTrainState) (cs := cs1) rfl rfl rfl c1 hl1.out ?_) | (refine x_ldA (s := shTrainState) (cs := c7) rfl rfl rfl cx8 hxc7.out ?_) | (refine x_ldA (s := shTrainState) (cs := c9) rfl rfl rfl cx10 hxc9.out ?_)
  simp only [Act.put, ev_tmp, List.setIfInBounds_toArray, List.set_cons_succ, List.set_cons_zero, List.getD_cons_succ, List.getD_cons_zero]
  refine x_callf (f := 73) (args := #[ofCs shTrainState cs1]) rfl rfl Try.func73 rfl (by kernel_rfl) ?_ ?_ ?_; (focus (simp [Act.eval]; done)); (focus (intro w1 hw1; exact ((toTrainState_ok cs1 D1 w1 (r1.ext hw1) hb1).mono fun e w3 ⟨cs3, bs3, g1, g2, _, _, g3⟩ => ⟨_, g1, g3, by rw [HF24.out]; exact ⟨cs3, rfl, g2.rep⟩⟩))); rintro u w3 e3 e4 hu; simp only [HF24.out] at hu; obtain ⟨cz26, rfl, rz26⟩ := hu; clear rz26
  simp only [Act.put, ev_tmp, List.setIfInBounds_toArray, List.set_cons_succ, List.set_cons_zero, List.getD_cons_succ, List.getD_cons_zero]
  refine x_callK (f := 74) (args := #[ofCs shTrainState cz25, ofCs shTrainState cz26]) rfl rfl Try.func74 rfl (by kernel_rfl) ?_ ?_ ?_; (focus (simp [Act.eval]; done)); (focus (intro w1 hw1 hK; exact (by (obtain ⟨wa0, ga0, gb0, gc0⟩ := known_call hK (j := 1) (d := 96) (by kernel_rfl) rfl rfl rfl rfl Try.func73 rfl (by kernel_rfl) (by simp); rw [HF24.out] at gc0; obtain ⟨ca0, hca0, ra0⟩ := gc0; have hcb0 : ofCs shTrainState cz25 = ofCs shTrainState ca0 := hca0; rw [hcb0]; obtain ⟨wa1, ga1, gb1, gc1⟩ := known_call hK (j := 3) (d := 98) (by kernel_rfl) rfl rfl rfl rfl Try.func73 rfl (by kernel_rfl) (by simp); rw [HF24.out] at gc1; obtain ⟨ca1, hca1, ra1⟩ := gc1; have hcb1 : ofCs shTrainState cz26 = ofCs shTrainState ca1 := hca1; rw [hcb1]; rw [HF24.out]; exact (K.out ca0 ca1 w1 (ra0.ext gb0) (ra1.ext gb1) f0 f1).mono fun e w3 ⟨cs3, bs3, g1, g2, g3, g4, g6⟩ => ⟨_, g1, g6, ⟨cs3, bs3, rfl, g2, g3, fun b hb => Nat.le_trans (by rw [hNd24]; exact hw1.size) (g4 b hb)⟩⟩)))); rintro u w3 e3 e4 hu; simp only [HF24.out] at hu; obtain ⟨c27_0, b27_0, rfl, o27_0, nd27_0, lo27_0⟩ := hu; replace o27_0 := o27_0.ext e4
  simp only [Act.put, ev_tmp, List.setIfInBounds_toArray, List.set_cons_succ, List.set_cons_zero, List.getD_cons_succ, List.getD_cons_zero]
  refine x_mv rfl rfl rfl ?_
  simp only [Act.put, ev_tmp, List.setIfInBounds_toArray, List.set_cons_succ, List.set_cons_zero, List.getD_cons_succ, List.getD_cons_zero]
  refine x_run rfl fun K hK w1 _ => ?_
  go_simp
  refine hK _ ?_
  clear hK K
  refine x_run rfl fun K hK w1 _ => ?_
  go_simp
  refine hK _ ?_
  clear hK K
  refine x_as rfl rfl rfl ?_
  simp only [Act.put, ev_tmp, List.setIfInBounds_toArray, List.set_cons_succ, List.set_cons_zero, List.getD_cons_succ, List.getD_cons_zero]
  refine x_as rfl rfl rfl ?_
  simp only [Act.put, ev_tmp, List.setIfInBounds_toArray, List.set_cons_succ, List.set_cons_zero, List.getD_cons_succ, List.getD_cons_zero]
  refine x_nil ?_
  replace e0 := e0.trans (hwf)
  replace s := Nat.le_trans s (Ext.size (hwf))
  replace c0 := c0.ext (hwf)
  replace c1 := c1.ext (hwf)
  replace o6_0 := o6_0.ext (hwf)
  replace cx8 := cx8.ext (hwf)
  replace cx10 := cx10.ext (hwf)
  replace o19m := o19m.ext (hwf)
  replace o20m := o20m.ext (hwf)
  replace o22m := o22m.ext (hwf)
  replace r0 := h0.ext e0
  replace r1 := h1.ext e0
  have lt27_0 := Own.lt o27_0
  have szf27 := Ext.size hwf
  obtain ⟨N27, hN27⟩ : ∃ N, N = wf.heap.size := ⟨_, rfl⟩
  rw [← hN27] at lt27_0 szf27 s
  have mm27 := s
  have s := Nat.le_of_eq hN27
  clear hwf
  obtain ⟨p_c27_0, q_c27_0, rfl, hm_c27_0⟩ := rep_val o27_0.rep
  simp only [ofCs, Sh.agg, List.headD_cons, Bool.false_eq_true, if_false]
  go_wp2_with (first | ((with_reducible show wpList _ _ _ (Oper.mk _ (Op.load _ _) _ _ _ _ :: _) _ _); refine wl_ldAw (s := shTrainState) (cs := cs0) (by first | rfl | (go_simp; done) | (go_simp; omega)) rfl rfl c0 hl0.out ?_) | ((with_reducible show wpList _ _ _ (Oper.mk _ (Op.load _ _) _ _ _ _ :: _) _ _); refine wl_ldAw (s := shTrainState) (cs := cs1) (by first | rfl | (go_simp; done) | (go_simp; omega)) rfl rfl c1 hl1.out ?_) | ((with_reducible show wpList _ _ _ (Oper.mk _ (Op.load _ _) _ _ _ _ :: _) _ _); refine wl_ldAw (s := shTrainState) (cs := c7) (by first | rfl | (go_simp; done) | (go_simp; omega)) rfl rfl cx8 hxc7.out ?_) | ((with_reducible show wpList _ _ _ (Oper.mk _ (Op.load _ _) _ _ _ _ :: _) _ _); refine wl_ldAw (s := shTrainState) (cs := c9) (by first | rfl | (go_simp; done) | (go_simp; omega)) rfl rfl cx10 hxc9.out ?_))
  refine (eqInt64S_ok [.slice p_c27_0 (List.length R0) q_c27_0] [.slice p_c6_0 (List.length R0) q_c6_0] R0 _ (o27_0.rep) (o6_0.rep) hbr0).mono ?_
  rintro e w28 ⟨rfl, e28⟩
  replace e0 := e0.trans (e28)
  replace s := Nat.le_trans s (Ext.size (e28))
  replace c0 := c0.ext (e28)
  replace c1 := c1.ext (e28)
  replace o6_0 := o6_0.ext (e28)
  replace cx8 := cx8.ext (e28)
  replace cx10 := cx10.ext (e28)
  replace o19m := o19m.ext (e28)
  replace o20m := o20m.ext (e28)
  replace o22m := o22m.ext (e28)
  replace o27_0 := o27_0.ext (e28)
  replace r0 := h0.ext e0
  replace r1 := h1.ext e0
  clear e28
  go_wp2_with (first | ((with_reducible show wpList _ _ _ (Oper.mk _ (Op.load _ _) _ _ _ _ :: _) _ _); refine wl_ldAw (s := shTrainState) (cs := cs0) (by first | rfl | (go_simp; done) | (go_simp; omega)) rfl rfl c0 hl0.out ?_) | ((with_reducible show wpList _ _ _ (Oper.mk _ (Op.load _ _) _ _ _ _ :: _) _ _); refine wl_ldAw (s := shTrainState) (cs := cs1) (by first | rfl | (go_simp; done) | (go_simp; omega)) rfl rfl c1 hl1.out ?_) | ((with_reducible show wpList _ _ _ (Oper.mk _ (Op.load _ _) _ _ _ _ :: _) _ _); refine wl_ldAw (s := shTrainState) (cs := c7) (by first | rfl | (go_simp; done) | (go_simp; omega)) rfl rfl cx8 hxc7.out ?_) | ((with_reducible show wpList _ _ _ (Oper.mk _ (Op.load _ _) _ _ _ _ :: _) _ _); refine wl_ldAw (s := shTrainState) (cs := c9) (by first | rfl | (go_simp; done) | (go_simp; omega)) rfl rfl cx10 hxc9.out ?_))
  refine (heldInt64S_ok [.slice p_c11_0 (List.length R0) q_c11_0] R0 1 _ o22m.rep (by omega) (by omega)).mono ?_
  rintro e w29 ⟨rfl, e29⟩
  replace e0 := e0.trans (e29)
  replace s := Nat.le_trans s (Ext.size (e29))
  replace c0 := c0.ext (e29)
  replace c1 := c1.ext (e29)
  replace o6_0 := o6_0.ext (e29)
  replace cx8 := cx8.ext (e29)
  replace cx10 := cx10.ext (e29)
  replace o19m := o19m.ext (e29)
  replace o20m := o20m.ext (e29)
  replace o22m := o22m.ext (e29)
  replace o27_0 := o27_0.ext (e29)
  replace r0 := h0.ext e0
  replace r1 := h1.ext e0
  clear e29
  rw [← HK22.out]
  go_wp2
  go_ret
  exact ⟨rfl, e0⟩
end Go.Proofs.Ytangnigplachdaa.lChangedNumbers
