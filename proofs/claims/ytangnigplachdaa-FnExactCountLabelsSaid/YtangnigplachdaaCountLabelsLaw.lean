/- The law FnExactCountLabels answers true at every input. -/
import Derived.Test.YtangnigplachdaaCLab
import Derived.Test.YtangnigplachdaaKb
import Derived.Test.YtangnigplachdaaKa
namespace Go.Proofs.Ytangnigplachdaa.lCountLabels
set_option linter.unusedSimpArgs false
set_option linter.unusedVariables false
open Go.RowKit

set_option maxRecDepth 100000 in
set_option maxHeartbeats 1000000 in
theorem law_any (cs0 : List Value) (D0 : Sh.T shModel) (cs1 : List Value) (D1 : Sh.T shTensor) (cs2 : List Value) (D2 : Sh.T (.sl .int)) (w : World) (h0 : Rep w shModel cs0 D0) (h1 : Rep w shTensor cs1 D1) (h2 : Rep w (.sl .int) cs2 D2) (f0 : Fit shModel D0) (f1 : Fit shTensor D1) (f2 : Fit (.sl .int) D2) : Calls Try.prog 6 #[ofCs shModel cs0, ofCs shTensor cs1, ofCs (.sl .int) cs2] w fun e w' => e = .returned (.bool true) ∧ Ext w w' := by
  have hl0 := hid h0.size
  have ho0 := hid h0.one
  have hl1 := hid h1.size
  have ho1 := hid h1.one
  have hl2 := hid h2.size
  have ho2 := hid h2.one
  obtain ⟨p2, q2, rfl, hm2⟩ := rep_val h2
  rw [show ofCs (.sl .int) [.slice p2 (List.length D2) q2] = .slice p2 (List.length D2) q2 from rfl]
  have e0 := Ext.refl w
  have r0 := h0
  have r1 := h1
  have r2 := h2
  go_enter Try.func6, Try.ntmps6
  by_cases hbig2 : 1048576 < List.length D2
  · go_wp2_with (first | ((with_reducible show wpList _ _ _ (Oper.mk _ (Op.box _ _) _ _ _ _ :: _) _ _); refine wl_box (s := shModel) (cs := cs0) rfl rfl rfl hl0.out ho0.out ?_; intro b0 v0 g0 _ c0; replace e0 := e0.trans g0; replace r0 := r0.ext g0; replace r1 := r1.ext g0; replace r2 := r2.ext g0) | ((with_reducible show wpList _ _ _ (Oper.mk _ (Op.box _ _) _ _ _ _ :: _) _ _); refine wl_box (s := shTensor) (cs := cs1) rfl rfl rfl hl1.out ho1.out ?_; intro b1 v1 g1 _ c1; replace e0 := e0.trans g1; replace r0 := r0.ext g1; replace r1 := r1.ext g1; replace r2 := r2.ext g1; replace c0 := c0.ext g1) | ((with_reducible show wpList _ _ _ (Oper.mk _ (Op.load _ _) _ _ _ _ :: _) _ _); refine wl_ldA (s := shModel) (cs := cs0) rfl rfl rfl c0 hl0.out ?_) | ((with_reducible show wpList _ _ _ (Oper.mk _ (Op.load _ _) _ _ _ _ :: _) _ _); refine wl_ldA (s := shTensor) (cs := cs1) rfl rfl rfl c1 hl1.out ?_))
    go_ret
    exact ⟨rfl, e0⟩
  have hb2 : tot (.sl .int) D2 ≤ 1048576 := by rw [tot_ints]; omega
  go_wp2_with (first | ((with_reducible show wpList _ _ _ (Oper.mk _ (Op.box _ _) _ _ _ _ :: _) _ _); refine wl_box (s := shModel) (cs := cs0) rfl rfl rfl hl0.out ho0.out ?_; intro b0 v0 g0 _ c0; replace e0 := e0.trans g0; replace r0 := r0.ext g0; replace r1 := r1.ext g0; replace r2 := r2.ext g0) | ((with_reducible show wpList _ _ _ (Oper.mk _ (Op.box _ _) _ _ _ _ :: _) _ _); refine wl_box (s := shTensor) (cs := cs1) rfl rfl rfl hl1.out ho1.out ?_; intro b1 v1 g1 _ c1; replace e0 := e0.trans g1; replace r0 := r0.ext g1; replace r1 := r1.ext g1; replace r2 := r2.ext g1; replace c0 := c0.ext g1) | ((with_reducible show wpList _ _ _ (Oper.mk _ (Op.load _ _) _ _ _ _ :: _) _ _); refine wl_ldA (s := shModel) (cs := cs0) rfl rfl rfl c0 hl0.out ?_) | ((with_reducible show wpList _ _ _ (Oper.mk _ (Op.load _ _) _ _ _ _ :: _) _ _); refine wl_ldA (s := shTensor) (cs := cs1) rfl rfl rfl c1 hl1.out ?_))
  refine (szModel_ok cs0 D0 1048576 _ r0 (by omega) (by omega)).mono ?_
  rintro e w1 ⟨⟨s1, rfl, hs1⟩, e101⟩
  replace e0 := e0.trans e101
  replace r0 := r0.ext e101
  replace r1 := r1.ext e101
  replace r2 := r2.ext e101
  replace c0 := c0.ext e101
  replace c1 := c1.ext e101
  clear e101
  by_cases hn1 : s1 < 0
  · go_wp2
    go_ret
    exact ⟨rfl, e0⟩
  have hb0 : tot shModel D0 ≤ 1048576 := by rcases hs1 with h | h; exact absurd h hn1; omega
  have hz1 : 0 ≤ s1 := by omega
  have ht1 : s1 ≤ 1048576 := by rcases hs1 with h | h; exact absurd h hn1; omega
  clear hs1
  go_wp2_with (first | ((with_reducible show wpList _ _ _ (Oper.mk _ (Op.load _ _) _ _ _ _ :: _) _ _); refine wl_ldA (s := shModel) (cs := cs0) rfl rfl rfl c0 hl0.out ?_) | ((with_reducible show wpList _ _ _ (Oper.mk _ (Op.load _ _) _ _ _ _ :: _) _ _); refine wl_ldA (s := shTensor) (cs := cs1) rfl rfl rfl c1 hl1.out ?_))
  refine (szTensor_ok cs1 D1 s1 _ r1 (by omega) (by omega)).mono ?_
  rintro e w2 ⟨⟨s2, rfl, hs2⟩, e102⟩
  replace e0 := e0.trans e102
  replace r0 := r0.ext e102
  replace r1 := r1.ext e102
  replace r2 := r2.ext e102
  replace c0 := c0.ext e102
  replace c1 := c1.ext e102
  clear e102
  by_cases hn2 : s2 < 0
  · go_wp2
    go_ret
    exact ⟨rfl, e0⟩
  have hb1 : tot shTensor D1 ≤ 1048576 := by rcases hs2 with h | h; exact absurd h hn2; omega
  have hz2 : 0 ≤ s2 := by omega
  have ht2 : s2 ≤ 1048576 := by rcases hs2 with h | h; exact absurd h hn2; omega
  clear hs2
  go_wp2_with (first | ((with_reducible show wpList _ _ _ (Oper.mk _ (Op.load _ _) _ _ _ _ :: _) _ _); refine wl_ldA (s := shModel) (cs := cs0) rfl rfl rfl c0 hl0.out ?_) | ((with_reducible show wpList _ _ _ (Oper.mk _ (Op.load _ _) _ _ _ _ :: _) _ _); refine wl_ldA (s := shTensor) (cs := cs1) rfl rfl rfl c1 hl1.out ?_))
  replace e0 := e0.trans (Ext.drew _)
  replace r0 := r0.ext (Ext.drew _)
  replace r1 := r1.ext (Ext.drew _)
  replace r2 := r2.ext (Ext.drew _)
  replace c0 := c0.ext (Ext.drew _)
  replace c1 := c1.ext (Ext.drew _)
  have KS := hid (fun y0 y1 y2 W => spec_ok y0 D0 y1 D1 y2 D2 W)
  have K := hid (fun y0 y1 y2 W => impl_ok y0 D0 y1 D1 y2 D2 W)
  generalize res D0 D1 D2 = r at *
  obtain ⟨z0, z1⟩ := r
  obtain ⟨F3, hF3⟩ : ∃ F : Option Tmp → World → Value → Prop, F = fun d W u => (match d with | some 30 => ∃ cs', u = ofCs shModel cs' ∧ Rep W shModel cs' D0 | some 32 => ∃ cs', u = ofCs shTensor cs' ∧ Rep W shTensor cs' D1 | some 34 => ∃ cs', u = ofCs (.sl .int) cs' ∧ Rep W (.sl .int) cs' D2 | some 35 => u = .tuple #[.int .i64 z0, .bool z1] | _ => True) := ⟨_, rfl⟩
  have HF3 := hid hF3
  clear hF3
  refine wp_region_xall (F := F3) (by kernel_rfl) (by kernel_rfl) (by kernel_rfl) ?_
  intro wf hwf
  first | (refine x_ldA (s := shModel) (cs := cs0) rfl rfl rfl c0 hl0.out ?_) | (refine x_ldA (s := shTensor) (cs := cs1) rfl rfl rfl c1 hl1.out ?_)
  simp only [Act.put, ev_tmp, List.setIfInBounds_toArray, List.set_cons_succ, List.set_cons_zero, List.getD_cons_succ, List.getD_cons_zero]
  refine x_callf (f := 16) (args := #[ofCs shModel cs0]) rfl rfl Try.func16 rfl (by kernel_rfl) ?_ ?_ ?_; (focus (simp [Act.eval]; done)); (focus (intro w1 hw1; exact ((toModel_ok cs0 D0 w1 (r0.ext hw1) hb0).mono fun e w3 ⟨cs3, bs3, g1, g2, _, _, g3⟩ => ⟨_, g1, g3, by rw [HF3.out]; exact ⟨cs3, rfl, g2.rep⟩⟩))); rintro u w3 e3 e4 hu; simp only [HF3.out] at hu; obtain ⟨cz4, rfl, rz4⟩ := hu; clear rz4
  simp only [Act.put, ev_tmp, List.setIfInBounds_toArray, List.set_cons_succ, List.set_cons_zero, List.getD_cons_succ, List.getD_cons_zero]
  first | (refine x_ldA (s := shModel) (cs := cs0) rfl rfl rfl c0 hl0.out ?_) | (refine x_ldA (s := shTensor) (cs := cs1) rfl rfl rfl c1 hl1.out ?_)
  simp only [Act.put, ev_tmp, List.setIfInBounds_toArray, List.set_cons_succ, List.set_cons_zero, List.getD_cons_succ, List.getD_cons_zero]
  refine x_callf (f := 28) (args := #[ofCs shTensor cs1]) rfl rfl Try.func28 rfl (by kernel_rfl) ?_ ?_ ?_; (focus (simp [Act.eval]; done)); (focus (intro w1 hw1; exact ((toTensor_ok cs1 D1 w1 (r1.ext hw1) hb1).mono fun e w3 ⟨cs3, bs3, g1, g2, _, _, g3⟩ => ⟨_, g1, g3, by rw [HF3.out]; exact ⟨cs3, rfl, g2.rep⟩⟩))); rintro u w3 e3 e4 hu; simp only [HF3.out] at hu; obtain ⟨cz5, rfl, rz5⟩ := hu; clear rz5
  simp only [Act.put, ev_tmp, List.setIfInBounds_toArray, List.set_cons_succ, List.set_cons_zero, List.getD_cons_succ, List.getD_cons_zero]
  refine x_mv rfl rfl rfl ?_
  simp only [Act.put, ev_tmp, List.setIfInBounds_toArray, List.set_cons_succ, List.set_cons_zero, List.getD_cons_succ, List.getD_cons_zero]
  refine x_callf (f := 39) (args := #[.slice p2 (List.length D2) q2]) rfl rfl Try.func39 rfl (by kernel_rfl) ?_ ?_ ?_; (focus (simp [Act.eval]; done)); (focus (intro w1 hw1; exact ((toInt64S_ok [.slice p2 (List.length D2) q2] D2 w1 (r2.ext hw1) hb2).mono fun e w3 ⟨cs3, bs3, g1, g2, _, _, g3⟩ => ⟨_, g1, g3, by rw [HF3.out]; exact ⟨cs3, rfl, g2.rep⟩⟩))); rintro u w3 e3 e4 hu; simp only [HF3.out] at hu; obtain ⟨cz6, rfl, rz6⟩ := hu; clear rz6
  simp only [Act.put, ev_tmp, List.setIfInBounds_toArray, List.set_cons_succ, List.set_cons_zero, List.getD_cons_succ, List.getD_cons_zero]
  refine x_callK (f := 38) (args := #[ofCs shModel cz4, ofCs shTensor cz5, ofCs (.sl .int) cz6]) rfl rfl Try.func38 rfl (by kernel_rfl) ?_ ?_ ?_; (focus (simp [Act.eval]; done)); (focus (intro w1 hw1 hK; exact (by (obtain ⟨wa0, ga0, gb0, gc0⟩ := known_call hK (j := 1) (d := 30) (by kernel_rfl) rfl rfl rfl rfl Try.func16 rfl (by kernel_rfl) (by simp); rw [HF3.out] at gc0; obtain ⟨ca0, hca0, ra0⟩ := gc0; have hcb0 : ofCs shModel cz4 = ofCs shModel ca0 := hca0; rw [hcb0]; obtain ⟨wa1, ga1, gb1, gc1⟩ := known_call hK (j := 3) (d := 32) (by kernel_rfl) rfl rfl rfl rfl Try.func28 rfl (by kernel_rfl) (by simp); rw [HF3.out] at gc1; obtain ⟨ca1, hca1, ra1⟩ := gc1; have hcb1 : ofCs shTensor cz5 = ofCs shTensor ca1 := hca1; rw [hcb1]; obtain ⟨wa2, ga2, gb2, gc2⟩ := known_call hK (j := 5) (d := 34) (by kernel_rfl) rfl rfl rfl rfl Try.func39 rfl (by kernel_rfl) (by simp); rw [HF3.out] at gc2; obtain ⟨ca2, hca2, ra2⟩ := gc2; have hcb2 : ofCs (.sl .int) cz6 = ofCs (.sl .int) ca2 := hca2; rw [hcb2]; rw [HF3.out]; exact (KS.out ca0 ca1 ca2 w1 (ra0.ext gb0) (ra1.ext gb1) (ra2.ext gb2) f0 f1 f2).mono fun e w3 h => ⟨_, h.1, h.2, rfl⟩)))); rintro u w3 e3 e4 hu; simp only [HF3.out] at hu; subst hu
  simp only [Act.put, ev_tmp, List.setIfInBounds_toArray, List.set_cons_succ, List.set_cons_zero, List.getD_cons_succ, List.getD_cons_zero]
  refine x_mv rfl rfl rfl ?_
  simp only [Act.put, ev_tmp, List.setIfInBounds_toArray, List.set_cons_succ, List.set_cons_zero, List.getD_cons_succ, List.getD_cons_zero]
  refine x_run rfl fun K hK w1 _ => ?_
  go_simp
  refine hK _ ?_
  clear hK K
  refine x_run rfl fun K hK w1 _ => ?_
  go_simp
  refine hK _ ?_
  clear hK K
  refine x_as rfl rfl rfl ?_
  simp only [Act.put, ev_tmp, List.setIfInBounds_toArray, List.set_cons_succ, List.set_cons_zero, List.getD_cons_succ, List.getD_cons_zero]
  refine x_as rfl rfl rfl ?_
  simp only [Act.put, ev_tmp, List.setIfInBounds_toArray, List.set_cons_succ, List.set_cons_zero, List.getD_cons_succ, List.getD_cons_zero]
  refine x_nil ?_
  replace e0 := e0.trans hwf
  replace r0 := r0.ext hwf
  replace r1 := r1.ext hwf
  replace r2 := r2.ext hwf
  replace c0 := c0.ext hwf
  replace c1 := c1.ext hwf
  clear hwf
  go_wp2_with (first | ((with_reducible show wpList _ _ _ (Oper.mk _ (Op.load _ _) _ _ _ _ :: _) _ _); refine wl_ldA (s := shModel) (cs := cs0) rfl rfl rfl c0 hl0.out ?_) | ((with_reducible show wpList _ _ _ (Oper.mk _ (Op.load _ _) _ _ _ _ :: _) _ _); refine wl_ldA (s := shTensor) (cs := cs1) rfl rfl rfl c1 hl1.out ?_))
  refine (toModel_ok cs0 D0 _ r0 hb0).mono ?_
  rintro e w7 ⟨cs_7, bs_7, rfl, own_7, nd_7, lo_7, e_7⟩
  replace e0 := e0.trans e_7
  replace r0 := r0.ext e_7
  replace r1 := r1.ext e_7
  replace r2 := r2.ext e_7
  replace c0 := c0.ext e_7
  replace c1 := c1.ext e_7
  have rx_7 := own_7.rep
  clear own_7 nd_7 lo_7 e_7
  have hxcs_7 := hid rx_7.size
  have hycs_7 := hid rx_7.one
  go_wp2_with (first | ((with_reducible show wpList _ _ _ (Oper.mk _ (Op.load _ _) _ _ _ _ :: _) _ _); refine wl_ldA (s := shModel) (cs := cs0) rfl rfl rfl c0 hl0.out ?_) | ((with_reducible show wpList _ _ _ (Oper.mk _ (Op.load _ _) _ _ _ _ :: _) _ _); refine wl_ldA (s := shTensor) (cs := cs1) rfl rfl rfl c1 hl1.out ?_) | ((with_reducible show wpList _ _ _ (Oper.mk _ (Op.store _ _ _) _ _ _ _ :: _) _ _); refine wl_stA (s := shModel) (cs := cs_7) rfl rfl rfl rfl (heap_alloc_new _ _) rfl hxcs_7.out hycs_7.out (by decide) ?_; intro _ cx0 ch8; have E8 := (Ext.alloc _ _).chg ch8 (fun b hb => by subst hb; exact Nat.le_refl _); replace e0 := e0.trans E8; replace r0 := r0.ext E8; replace r1 := r1.ext E8; replace r2 := r2.ext E8; replace c0 := c0.ext E8; replace c1 := c1.ext E8; replace rx_7 := rx_7.ext E8; clear E8 ch8) | ((with_reducible show wpList _ _ _ (Oper.mk _ (Op.load _ _) _ _ _ _ :: _) _ _); refine wl_ldA (s := shModel) (cs := cs_7) rfl rfl rfl cx0 hxcs_7.out ?_))
  refine (toTensor_ok cs1 D1 _ r1 hb1).mono ?_
  rintro e w9 ⟨cs_9, bs_9, rfl, own_9, nd_9, lo_9, e_9⟩
  replace e0 := e0.trans e_9
  replace r0 := r0.ext e_9
  replace r1 := r1.ext e_9
  replace r2 := r2.ext e_9
  replace c0 := c0.ext e_9
  replace c1 := c1.ext e_9
  replace rx_7 := rx_7.ext e_9
  replace cx0 := cx0.ext e_9
  have rx_9 := own_9.rep
  clear own_9 nd_9 lo_9 e_9
  have hxcs_9 := hid rx_9.size
  have hycs_9 := hid rx_9.one
  go_wp2_with (first | ((with_reducible show wpList _ _ _ (Oper.mk _ (Op.load _ _) _ _ _ _ :: _) _ _); refine wl_ldA (s := shModel) (cs := cs0) rfl rfl rfl c0 hl0.out ?_) | ((with_reducible show wpList _ _ _ (Oper.mk _ (Op.load _ _) _ _ _ _ :: _) _ _); refine wl_ldA (s := shTensor) (cs := cs1) rfl rfl rfl c1 hl1.out ?_) | ((with_reducible show wpList _ _ _ (Oper.mk _ (Op.load _ _) _ _ _ _ :: _) _ _); refine wl_ldA (s := shModel) (cs := cs_7) rfl rfl rfl cx0 hxcs_7.out ?_) | ((with_reducible show wpList _ _ _ (Oper.mk _ (Op.store _ _ _) _ _ _ _ :: _) _ _); refine wl_stA (s := shTensor) (cs := cs_9) rfl rfl rfl rfl (heap_alloc_new _ _) rfl hxcs_9.out hycs_9.out (by decide) ?_; intro _ cx1 ch10; have E10 := (Ext.alloc _ _).chg ch10 (fun b hb => by subst hb; exact Nat.le_refl _); replace e0 := e0.trans E10; replace r0 := r0.ext E10; replace r1 := r1.ext E10; replace r2 := r2.ext E10; replace c0 := c0.ext E10; replace c1 := c1.ext E10; replace rx_7 := rx_7.ext E10; replace cx0 := cx0.ext E10; replace rx_9 := rx_9.ext E10; clear E10 ch10) | ((with_reducible show wpList _ _ _ (Oper.mk _ (Op.load _ _) _ _ _ _ :: _) _ _); refine wl_ldA (s := shTensor) (cs := cs_9) rfl rfl rfl cx1 hxcs_9.out ?_))
  refine (toInt64S_ok [.slice p2 (List.length D2) q2] D2 _ r2 hb2).mono ?_
  rintro e w11 ⟨cs_11, bs_11, rfl, own_11, nd_11, lo_11, e_11⟩
  replace e0 := e0.trans e_11
  replace r0 := r0.ext e_11
  replace r1 := r1.ext e_11
  replace r2 := r2.ext e_11
  replace c0 := c0.ext e_11
  replace c1 := c1.ext e_11
  replace rx_7 := rx_7.ext e_11
  replace cx0 := cx0.ext e_11
  replace rx_9 := rx_9.ext e_11
  replace cx1 := cx1.ext e_11
  have rx_11 := own_11.rep
  clear own_11 nd_11 lo_11 e_11
  obtain ⟨px_11, qx_11, rfl, hm_11⟩ := rep_val rx_11
  simp only [ofCs, Sh.agg, List.headD_cons, Bool.false_eq_true, if_false] at rx_11 ⊢
  go_wp2_with (first | ((with_reducible show wpList _ _ _ (Oper.mk _ (Op.load _ _) _ _ _ _ :: _) _ _); refine wl_ldA (s := shModel) (cs := cs0) rfl rfl rfl c0 hl0.out ?_) | ((with_reducible show wpList _ _ _ (Oper.mk _ (Op.load _ _) _ _ _ _ :: _) _ _); refine wl_ldA (s := shTensor) (cs := cs1) rfl rfl rfl c1 hl1.out ?_) | ((with_reducible show wpList _ _ _ (Oper.mk _ (Op.load _ _) _ _ _ _ :: _) _ _); refine wl_ldA (s := shModel) (cs := cs_7) rfl rfl rfl cx0 hxcs_7.out ?_) | ((with_reducible show wpList _ _ _ (Oper.mk _ (Op.load _ _) _ _ _ _ :: _) _ _); refine wl_ldA (s := shTensor) (cs := cs_9) rfl rfl rfl cx1 hxcs_9.out ?_))
  refine (K.out cs_7 cs_9 [.slice px_11 (List.length D2) qx_11] _ rx_7 rx_9 rx_11 f0 f1 f2).mono ?_
  rintro e w12 ⟨rfl, e_12⟩
  replace e0 := e0.trans e_12
  replace r0 := r0.ext e_12
  replace r1 := r1.ext e_12
  replace r2 := r2.ext e_12
  replace c0 := c0.ext e_12
  replace c1 := c1.ext e_12
  replace rx_7 := rx_7.ext e_12
  replace cx0 := cx0.ext e_12
  replace rx_9 := rx_9.ext e_12
  replace cx1 := cx1.ext e_12
  replace rx_11 := rx_11.ext e_12
  clear e_12
  go_wp2_with (first | ((with_reducible show wpList _ _ _ (Oper.mk _ (Op.load _ _) _ _ _ _ :: _) _ _); refine wl_ldA (s := shModel) (cs := cs0) rfl rfl rfl c0 hl0.out ?_) | ((with_reducible show wpList _ _ _ (Oper.mk _ (Op.load _ _) _ _ _ _ :: _) _ _); refine wl_ldA (s := shTensor) (cs := cs1) rfl rfl rfl c1 hl1.out ?_) | ((with_reducible show wpList _ _ _ (Oper.mk _ (Op.load _ _) _ _ _ _ :: _) _ _); refine wl_ldA (s := shModel) (cs := cs_7) rfl rfl rfl cx0 hxcs_7.out ?_) | ((with_reducible show wpList _ _ _ (Oper.mk _ (Op.load _ _) _ _ _ _ :: _) _ _); refine wl_ldA (s := shTensor) (cs := cs_9) rfl rfl rfl cx1 hxcs_9.out ?_))
  replace e0 := e0.trans (Ext.drew _)
  replace r0 := r0.ext (Ext.drew _)
  replace r1 := r1.ext (Ext.drew _)
  replace r2 := r2.ext (Ext.drew _)
  replace c0 := c0.ext (Ext.drew _)
  replace c1 := c1.ext (Ext.drew _)
  replace rx_7 := rx_7.ext (Ext.drew _)
  replace cx0 := cx0.ext (Ext.drew _)
  replace rx_9 := rx_9.ext (Ext.drew _)
  replace cx1 := cx1.ext (Ext.drew _)
  replace rx_11 := rx_11.ext (Ext.drew _)
  obtain ⟨F13, hF13⟩ : ∃ F : Option Tmp → World → Value → Prop, F = fun d W u => (match d with | some 61 => ∃ cs', u = ofCs shModel cs' ∧ Rep W shModel cs' D0 | _ => True) := ⟨_, rfl⟩
  have HF13 := hid hF13
  clear hF13
  refine wp_region_xt 3 (F := F13) (by kernel_rfl) (by kernel_rfl) (by kernel_rfl) (by kernel_rfl) (by kernel_rfl) ?_
  intro wf hwf
  simp only [List.take_succ_cons, List.take_zero, List.drop_succ_cons, List.drop_zero]
  first | (refine x_ldA (s := shModel) (cs := cs0) rfl rfl rfl c0 hl0.out ?_) | (refine x_ldA (s := shTensor) (cs := cs1) rfl rfl rfl c1 hl1.out ?_) | (refine x_ldA (s := shModel) (cs := cs_7) rfl rfl rfl cx0 hxcs_7.out ?_) | (refine x_ldA (s := shTensor) (cs := cs_9) rfl rfl rfl cx1 hxcs_9.out ?_)
  simp only [Act.put, ev_tmp, List.setIfInBounds_toArray, List.set_cons_succ, List.set_cons_zero, List.getD_cons_succ, List.getD_cons_zero]
  first | (refine x_ldA (s := shModel) (cs := cs0) rfl rfl rfl c0 hl0.out ?_) | (refine x_ldA (s := shTensor) (cs := cs1) rfl rfl rfl c1 hl1.out ?_) | (refine x_ldA (s := shModel) (cs := cs_7) rfl rfl rfl cx0 hxcs_7.out ?_) | (refine x_ldA (s := shTensor) (cs := cs_9) rfl rfl rfl cx1 hxcs_9.out ?_)
  simp only [Act.put, ev_tmp, List.setIfInBounds_toArray, List.set_cons_succ, List.set_cons_zero, List.getD_cons_succ, List.getD_cons_zero]
  refine x_callf (f := 16) (args := #[ofCs shModel cs0]) rfl rfl Try.func16 rfl (by kernel_rfl) ?_ ?_ ?_; (focus (simp [Act.eval]; done)); (focus (intro w1 hw1; exact ((toModel_ok cs0 D0 w1 (r0.ext hw1) hb0).mono fun e w3 ⟨cs3, bs3, g1, g2, _, _, g3⟩ => ⟨_, g1, g3, by rw [HF13.out]; exact ⟨cs3, rfl, g2.rep⟩⟩))); rintro u w3 e3 e4 hu; simp only [HF13.out] at hu; obtain ⟨cz14, rfl, rz14⟩ := hu; replace rz14 := rz14.ext e4
  simp only [Act.put, ev_tmp, List.setIfInBounds_toArray, List.set_cons_succ, List.set_cons_zero, List.getD_cons_succ, List.getD_cons_zero]
  refine x_nil ?_
  replace e0 := e0.trans hwf
  replace r0 := r0.ext hwf
  replace r1 := r1.ext hwf
  replace r2 := r2.ext hwf
  replace c0 := c0.ext hwf
  replace c1 := c1.ext hwf
  replace rx_7 := rx_7.ext hwf
  replace cx0 := cx0.ext hwf
  replace rx_9 := rx_9.ext hwf
  replace cx1 := cx1.ext hwf
  replace rx_11 := rx_11.ext hwf
  clear hwf
  go_wp2_with fail
  refine (eqModel_ok cs_7 cz14 D0 _ rx_7 rz14 hb0).mono ?_
  rintro e w15 ⟨rfl, e_15⟩
  replace e0 := e0.trans e_15
  replace r0 := r0.ext e_15
  replace r1 := r1.ext e_15
  replace r2 := r2.ext e_15
  replace c0 := c0.ext e_15
  replace c1 := c1.ext e_15
  replace rx_7 := rx_7.ext e_15
  replace cx0 := cx0.ext e_15
  replace rx_9 := rx_9.ext e_15
  replace cx1 := cx1.ext e_15
  replace rx_11 := rx_11.ext e_15
  replace rz14 := rz14.ext e_15
  clear e_15
  go_wp2_with (first | ((with_reducible show wpList _ _ _ (Oper.mk _ (Op.load _ _) _ _ _ _ :: _) _ _); refine wl_ldA (s := shModel) (cs := cs0) rfl rfl rfl c0 hl0.out ?_) | ((with_reducible show wpList _ _ _ (Oper.mk _ (Op.load _ _) _ _ _ _ :: _) _ _); refine wl_ldA (s := shTensor) (cs := cs1) rfl rfl rfl c1 hl1.out ?_) | ((with_reducible show wpList _ _ _ (Oper.mk _ (Op.load _ _) _ _ _ _ :: _) _ _); refine wl_ldA (s := shModel) (cs := cs_7) rfl rfl rfl cx0 hxcs_7.out ?_) | ((with_reducible show wpList _ _ _ (Oper.mk _ (Op.load _ _) _ _ _ _ :: _) _ _); refine wl_ldA (s := shTensor) (cs := cs_9) rfl rfl rfl cx1 hxcs_9.out ?_))
  replace e0 := e0.trans (Ext.drew _)
  replace r0 := r0.ext (Ext.drew _)
  replace r1 := r1.ext (Ext.drew _)
  replace r2 := r2.ext (Ext.drew _)
  replace c0 := c0.ext (Ext.drew _)
  replace c1 := c1.ext (Ext.drew _)
  replace rx_7 := rx_7.ext (Ext.drew _)
  replace cx0 := cx0.ext (Ext.drew _)
  replace rx_9 := rx_9.ext (Ext.drew _)
  replace cx1 := cx1.ext (Ext.drew _)
  replace rx_11 := rx_11.ext (Ext.drew _)
  replace rz14 := rz14.ext (Ext.drew _)
  obtain ⟨F16, hF16⟩ : ∃ F : Option Tmp → World → Value → Prop, F = fun d W u => (match d with | some 66 => ∃ cs', u = ofCs shTensor cs' ∧ Rep W shTensor cs' D1 | _ => True) := ⟨_, rfl⟩
  have HF16 := hid hF16
  clear hF16
  refine wp_region_xt 3 (F := F16) (by kernel_rfl) (by kernel_rfl) (by kernel_rfl) (by kernel_rfl) (by kernel_rfl) ?_
  intro wf hwf
  simp only [List.take_succ_cons, List.take_zero, List.drop_succ_cons, List.drop_zero]
  first | (refine x_ldA (s := shModel) (cs := cs0) rfl rfl rfl c0 hl0.out ?_) | (refine x_ldA (s := shTensor) (cs := cs1) rfl rfl rfl c1 hl1.out ?_) | (refine x_ldA (s := shModel) (cs := cs_7) rfl rfl rfl cx0 hxcs_7.out ?_) | (refine x_ldA (s := shTensor) (cs := cs_9) rfl rfl rfl cx1 hxcs_9.out ?_)
  simp only [Act.put, ev_tmp, List.setIfInBounds_toArray, List.set_cons_succ, List.set_cons_zero, List.getD_cons_succ, List.getD_cons_zero]
  first | (refine x_ldA (s := shModel) (cs := cs0) rfl rfl rfl c0 hl0.out ?_) | (refine x_ldA (s := shTensor) (cs := cs1) rfl rfl rfl c1 hl1.out ?_) | (refine x_ldA (s := shModel) (cs := cs_7) rfl rfl rfl cx0 hxcs_7.out ?_) | (refine x_ldA (s := shTensor) (cs := cs_9) rfl rfl rfl cx1 hxcs_9.out ?_)
  simp only [Act.put, ev_tmp, List.setIfInBounds_toArray, List.set_cons_succ, List.set_cons_zero, List.getD_cons_succ, List.getD_cons_zero]
  refine x_callf (f := 28) (args := #[ofCs shTensor cs1]) rfl rfl Try.func28 rfl (by kernel_rfl) ?_ ?_ ?_; (focus (simp [Act.eval]; done)); (focus (intro w1 hw1; exact ((toTensor_ok cs1 D1 w1 (r1.ext hw1) hb1).mono fun e w3 ⟨cs3, bs3, g1, g2, _, _, g3⟩ => ⟨_, g1, g3, by rw [HF16.out]; exact ⟨cs3, rfl, g2.rep⟩⟩))); rintro u w3 e3 e4 hu; simp only [HF16.out] at hu; obtain ⟨cz17, rfl, rz17⟩ := hu; replace rz17 := rz17.ext e4
  simp only [Act.put, ev_tmp, List.setIfInBounds_toArray, List.set_cons_succ, List.set_cons_zero, List.getD_cons_succ, List.getD_cons_zero]
  refine x_nil ?_
  replace e0 := e0.trans hwf
  replace r0 := r0.ext hwf
  replace r1 := r1.ext hwf
  replace r2 := r2.ext hwf
  replace c0 := c0.ext hwf
  replace c1 := c1.ext hwf
  replace rx_7 := rx_7.ext hwf
  replace cx0 := cx0.ext hwf
  replace rx_9 := rx_9.ext hwf
  replace cx1 := cx1.ext hwf
  replace rx_11 := rx_11.ext hwf
  replace rz14 := rz14.ext hwf
  clear hwf
  go_wp2_with fail
  refine (eqTensor_ok cs_9 cz17 D1 _ rx_9 rz17 hb1).mono ?_
  rintro e w18 ⟨rfl, e_18⟩
  replace e0 := e0.trans e_18
  replace r0 := r0.ext e_18
  replace r1 := r1.ext e_18
  replace r2 := r2.ext e_18
  replace c0 := c0.ext e_18
  replace c1 := c1.ext e_18
  replace rx_7 := rx_7.ext e_18
  replace cx0 := cx0.ext e_18
  replace rx_9 := rx_9.ext e_18
  replace cx1 := cx1.ext e_18
  replace rx_11 := rx_11.ext e_18
  replace rz14 := rz14.ext e_18
  replace rz17 := rz17.ext e_18
  clear e_18
  go_wp2_with (first | ((with_reducible show wpList _ _ _ (Oper.mk _ (Op.load _ _) _ _ _ _ :: _) _ _); refine wl_ldA (s := shModel) (cs := cs0) rfl rfl rfl c0 hl0.out ?_) | ((with_reducible show wpList _ _ _ (Oper.mk _ (Op.load _ _) _ _ _ _ :: _) _ _); refine wl_ldA (s := shTensor) (cs := cs1) rfl rfl rfl c1 hl1.out ?_) | ((with_reducible show wpList _ _ _ (Oper.mk _ (Op.load _ _) _ _ _ _ :: _) _ _); refine wl_ldA (s := shModel) (cs := cs_7) rfl rfl rfl cx0 hxcs_7.out ?_) | ((with_reducible show wpList _ _ _ (Oper.mk _ (Op.load _ _) _ _ _ _ :: _) _ _); refine wl_ldA (s := shTensor) (cs := cs_9) rfl rfl rfl cx1 hxcs_9.out ?_))
  refine (toInt64S_ok [.slice p2 (List.length D2) q2] D2 _ r2 hb2).mono ?_
  rintro e w19 ⟨cs_19, bs_19, rfl, own_19, nd_19, lo_19, e_19⟩
  replace e0 := e0.trans e_19
  replace r0 := r0.ext e_19
  replace r1 := r1.ext e_19
  replace r2 := r2.ext e_19
  replace c0 := c0.ext e_19
  replace c1 := c1.ext e_19
  replace rx_7 := rx_7.ext e_19
  replace cx0 := cx0.ext e_19
  replace rx_9 := rx_9.ext e_19
  replace cx1 := cx1.ext e_19
  replace rx_11 := rx_11.ext e_19
  replace rz14 := rz14.ext e_19
  replace rz17 := rz17.ext e_19
  have rx_19 := own_19.rep
  clear own_19 nd_19 lo_19 e_19
  obtain ⟨px_19, qx_19, rfl, hm_19⟩ := rep_val rx_19
  simp only [ofCs, Sh.agg, List.headD_cons, Bool.false_eq_true, if_false] at rx_19 ⊢
  go_wp2_with (first | ((with_reducible show wpList _ _ _ (Oper.mk _ (Op.load _ _) _ _ _ _ :: _) _ _); refine wl_ldA (s := shModel) (cs := cs0) rfl rfl rfl c0 hl0.out ?_) | ((with_reducible show wpList _ _ _ (Oper.mk _ (Op.load _ _) _ _ _ _ :: _) _ _); refine wl_ldA (s := shTensor) (cs := cs1) rfl rfl rfl c1 hl1.out ?_) | ((with_reducible show wpList _ _ _ (Oper.mk _ (Op.load _ _) _ _ _ _ :: _) _ _); refine wl_ldA (s := shModel) (cs := cs_7) rfl rfl rfl cx0 hxcs_7.out ?_) | ((with_reducible show wpList _ _ _ (Oper.mk _ (Op.load _ _) _ _ _ _ :: _) _ _); refine wl_ldA (s := shTensor) (cs := cs_9) rfl rfl rfl cx1 hxcs_9.out ?_))
  refine (eqInt64S_ok [.slice px_11 (List.length D2) qx_11] [.slice px_19 (List.length D2) qx_19] D2 _ rx_11 rx_19 hb2).mono ?_
  rintro e w20 ⟨rfl, e_20⟩
  replace e0 := e0.trans e_20
  replace r0 := r0.ext e_20
  replace r1 := r1.ext e_20
  replace r2 := r2.ext e_20
  replace c0 := c0.ext e_20
  replace c1 := c1.ext e_20
  replace rx_7 := rx_7.ext e_20
  replace cx0 := cx0.ext e_20
  replace rx_9 := rx_9.ext e_20
  replace cx1 := cx1.ext e_20
  replace rx_11 := rx_11.ext e_20
  replace rz14 := rz14.ext e_20
  replace rz17 := rz17.ext e_20
  replace rx_19 := rx_19.ext e_20
  clear e_20
  go_wp2
  go_ret
  exact ⟨rfl, e0⟩
end Go.Proofs.Ytangnigplachdaa.lCountLabels
