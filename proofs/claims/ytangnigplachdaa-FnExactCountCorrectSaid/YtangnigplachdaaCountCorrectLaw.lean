/- The law FnExactCountCorrect answers true at every input. -/
import Derived.Test.YtangnigplachdaaCCor
import Derived.Test.YtangnigplachdaaKb
import Derived.Test.YtangnigplachdaaKa
namespace Go.Proofs.Ytangnigplachdaa.lCountCorrect
set_option linter.unusedSimpArgs false
set_option linter.unusedVariables false
open Go.RowKit

set_option maxRecDepth 100000 in
set_option maxHeartbeats 1000000 in
theorem law_any (cs0 : List Value) (D0 : Sh.T shModel) (cs1 : List Value) (D1 : Sh.T shExamples) (w : World) (h0 : Rep w shModel cs0 D0) (h1 : Rep w shExamples cs1 D1) (f0 : Fit shModel D0) (f1 : Fit shExamples D1) : Calls Try.prog 5 #[ofCs shModel cs0, ofCs shExamples cs1] w fun e w' => e = .returned (.bool true) ∧ Ext w w' := by
  have hl0 := hid h0.size
  have ho0 := hid h0.one
  have hl1 := hid h1.size
  have ho1 := hid h1.one
  have e0 := Ext.refl w
  have r0 := h0
  have r1 := h1
  go_enter Try.func5, Try.ntmps5
  go_wp2_with (first | ((with_reducible show wpList _ _ _ (Oper.mk _ (Op.box _ _) _ _ _ _ :: _) _ _); refine wl_box (s := shModel) (cs := cs0) rfl rfl rfl hl0.out ho0.out ?_; intro b0 v0 g0 _ c0; replace e0 := e0.trans g0; replace r0 := r0.ext g0; replace r1 := r1.ext g0) | ((with_reducible show wpList _ _ _ (Oper.mk _ (Op.box _ _) _ _ _ _ :: _) _ _); refine wl_box (s := shExamples) (cs := cs1) rfl rfl rfl hl1.out ho1.out ?_; intro b1 v1 g1 _ c1; replace e0 := e0.trans g1; replace r0 := r0.ext g1; replace r1 := r1.ext g1; replace c0 := c0.ext g1) | ((with_reducible show wpList _ _ _ (Oper.mk _ (Op.load _ _) _ _ _ _ :: _) _ _); refine wl_ldA (s := shModel) (cs := cs0) rfl rfl rfl c0 hl0.out ?_) | ((with_reducible show wpList _ _ _ (Oper.mk _ (Op.load _ _) _ _ _ _ :: _) _ _); refine wl_ldA (s := shExamples) (cs := cs1) rfl rfl rfl c1 hl1.out ?_))
  refine (szModel_ok cs0 D0 1048576 _ r0 (by omega) (by omega)).mono ?_
  rintro e w1 ⟨⟨s1, rfl, hs1⟩, e101⟩
  replace e0 := e0.trans e101
  replace r0 := r0.ext e101
  replace r1 := r1.ext e101
  replace c0 := c0.ext e101
  replace c1 := c1.ext e101
  clear e101
  by_cases hn1 : s1 < 0
  · go_wp2
    go_ret
    exact ⟨rfl, e0⟩
  have hb0 : tot shModel D0 ≤ 1048576 := by rcases hs1 with h | h; exact absurd h hn1; omega
  have hz1 : 0 ≤ s1 := by omega
  have ht1 : s1 ≤ 1048576 := by rcases hs1 with h | h; exact absurd h hn1; omega
  clear hs1
  go_wp2_with (first | ((with_reducible show wpList _ _ _ (Oper.mk _ (Op.load _ _) _ _ _ _ :: _) _ _); refine wl_ldA (s := shModel) (cs := cs0) rfl rfl rfl c0 hl0.out ?_) | ((with_reducible show wpList _ _ _ (Oper.mk _ (Op.load _ _) _ _ _ _ :: _) _ _); refine wl_ldA (s := shExamples) (cs := cs1) rfl rfl rfl c1 hl1.out ?_))
  refine (szExamples_ok cs1 D1 s1 _ r1 (by omega) (by omega)).mono ?_
  rintro e w2 ⟨⟨s2, rfl, hs2⟩, e102⟩
  replace e0 := e0.trans e102
  replace r0 := r0.ext e102
  replace r1 := r1.ext e102
  replace c0 := c0.ext e102
  replace c1 := c1.ext e102
  clear e102
  by_cases hn2 : s2 < 0
  · go_wp2
    go_ret
    exact ⟨rfl, e0⟩
  have hb1 : tot shExamples D1 ≤ 1048576 := by rcases hs2 with h | h; exact absurd h hn2; omega
  have hz2 : 0 ≤ s2 := by omega
  have ht2 : s2 ≤ 1048576 := by rcases hs2 with h | h; exact absurd h hn2; omega
  clear hs2
  go_wp2_with (first | ((with_reducible show wpList _ _ _ (Oper.mk _ (Op.load _ _) _ _ _ _ :: _) _ _); refine wl_ldA (s := shModel) (cs := cs0) rfl rfl rfl c0 hl0.out ?_) | ((with_reducible show wpList _ _ _ (Oper.mk _ (Op.load _ _) _ _ _ _ :: _) _ _); refine wl_ldA (s := shExamples) (cs := cs1) rfl rfl rfl c1 hl1.out ?_))
  replace e0 := e0.trans (Ext.drew _)
  replace r0 := r0.ext (Ext.drew _)
  replace r1 := r1.ext (Ext.drew _)
  replace c0 := c0.ext (Ext.drew _)
  replace c1 := c1.ext (Ext.drew _)
  have KS := hid (fun y0 y1 W => spec_ok y0 D0 y1 D1 W)
  have K := hid (fun y0 y1 W => impl_ok y0 D0 y1 D1 W)
  generalize res D0 D1 = r at *
  obtain ⟨z0, z1⟩ := r
  obtain ⟨F3, hF3⟩ : ∃ F : Option Tmp → World → Value → Prop, F = fun d W u => (match d with | some 24 => ∃ cs', u = ofCs shModel cs' ∧ Rep W shModel cs' D0 | some 26 => ∃ cs', u = ofCs shExamples cs' ∧ Rep W shExamples cs' D1 | some 27 => u = .tuple #[.int .i64 z0, .bool z1] | _ => True) := ⟨_, rfl⟩
  have HF3 := hid hF3
  clear hF3
  refine wp_region_xall (F := F3) (by kernel_rfl) (by kernel_rfl) (by kernel_rfl) ?_
  intro wf hwf
  first | (refine x_ldA (s := shModel) (cs := cs0) rfl rfl rfl c0 hl0.out ?_) | (refine x_ldA (s := shExamples) (cs := cs1) rfl rfl rfl c1 hl1.out ?_)
  simp only [Act.put, ev_tmp, List.setIfInBounds_toArray, List.set_cons_succ, List.set_cons_zero, List.getD_cons_succ, List.getD_cons_zero]
  refine x_callf (f := 16) (args := #[ofCs shModel cs0]) rfl rfl Try.func16 rfl (by kernel_rfl) ?_ ?_ ?_; (focus (simp [Act.eval]; done)); (focus (intro w1 hw1; exact ((toModel_ok cs0 D0 w1 (r0.ext hw1) hb0).mono fun e w3 ⟨cs3, bs3, g1, g2, _, _, g3⟩ => ⟨_, g1, g3, by rw [HF3.out]; exact ⟨cs3, rfl, g2.rep⟩⟩))); rintro u w3 e3 e4 hu; simp only [HF3.out] at hu; obtain ⟨cz4, rfl, rz4⟩ := hu; clear rz4
  simp only [Act.put, ev_tmp, List.setIfInBounds_toArray, List.set_cons_succ, List.set_cons_zero, List.getD_cons_succ, List.getD_cons_zero]
  first | (refine x_ldA (s := shModel) (cs := cs0) rfl rfl rfl c0 hl0.out ?_) | (refine x_ldA (s := shExamples) (cs := cs1) rfl rfl rfl c1 hl1.out ?_)
  simp only [Act.put, ev_tmp, List.setIfInBounds_toArray, List.set_cons_succ, List.set_cons_zero, List.getD_cons_succ, List.getD_cons_zero]
  refine x_callf (f := 35) (args := #[ofCs shExamples cs1]) rfl rfl Try.func35 rfl (by kernel_rfl) ?_ ?_ ?_; (focus (simp [Act.eval]; done)); (focus (intro w1 hw1; exact ((toExamples_ok cs1 D1 w1 (r1.ext hw1) hb1).mono fun e w3 ⟨cs3, bs3, g1, g2, _, _, g3⟩ => ⟨_, g1, g3, by rw [HF3.out]; exact ⟨cs3, rfl, g2.rep⟩⟩))); rintro u w3 e3 e4 hu; simp only [HF3.out] at hu; obtain ⟨cz5, rfl, rz5⟩ := hu; clear rz5
  simp only [Act.put, ev_tmp, List.setIfInBounds_toArray, List.set_cons_succ, List.set_cons_zero, List.getD_cons_succ, List.getD_cons_zero]
  refine x_callK (f := 34) (args := #[ofCs shModel cz4, ofCs shExamples cz5]) rfl rfl Try.func34 rfl (by kernel_rfl) ?_ ?_ ?_; (focus (simp [Act.eval]; done)); (focus (intro w1 hw1 hK; exact (by (obtain ⟨wa0, ga0, gb0, gc0⟩ := known_call hK (j := 1) (d := 24) (by kernel_rfl) rfl rfl rfl rfl Try.func16 rfl (by kernel_rfl) (by simp); rw [HF3.out] at gc0; obtain ⟨ca0, hca0, ra0⟩ := gc0; have hcb0 : ofCs shModel cz4 = ofCs shModel ca0 := hca0; rw [hcb0]; obtain ⟨wa1, ga1, gb1, gc1⟩ := known_call hK (j := 3) (d := 26) (by kernel_rfl) rfl rfl rfl rfl Try.func35 rfl (by kernel_rfl) (by simp); rw [HF3.out] at gc1; obtain ⟨ca1, hca1, ra1⟩ := gc1; have hcb1 : ofCs shExamples cz5 = ofCs shExamples ca1 := hca1; rw [hcb1]; rw [HF3.out]; exact (KS.out ca0 ca1 w1 (ra0.ext gb0) (ra1.ext gb1) f0 f1).mono fun e w3 h => ⟨_, h.1, h.2, rfl⟩)))); rintro u w3 e3 e4 hu; simp only [HF3.out] at hu; subst hu
  simp only [Act.put, ev_tmp, List.setIfInBounds_toArray, List.set_cons_succ, List.set_cons_zero, List.getD_cons_succ, List.getD_cons_zero]
  refine x_mv rfl rfl rfl ?_
  simp only [Act.put, ev_tmp, List.setIfInBounds_toArray, List.set_cons_succ, List.set_cons_zero, List.getD_cons_succ, List.getD_cons_zero]
  refine x_run rfl fun K hK w1 _ => ?_
  go_simp
  refine hK _ ?_
  clear hK K
  refine x_run rfl fun K hK w1 _ => ?_
  go_simp
  refine hK _ ?_
  clear hK K
  refine x_as rfl rfl rfl ?_
  simp only [Act.put, ev_tmp, List.setIfInBounds_toArray, List.set_cons_succ, List.set_cons_zero, List.getD_cons_succ, List.getD_cons_zero]
  refine x_as rfl rfl rfl ?_
  simp only [Act.put, ev_tmp, List.setIfInBounds_toArray, List.set_cons_succ, List.set_cons_zero, List.getD_cons_succ, List.getD_cons_zero]
  refine x_nil ?_
  replace e0 := e0.trans hwf
  replace r0 := r0.ext hwf
  replace r1 := r1.ext hwf
  replace c0 := c0.ext hwf
  replace c1 := c1.ext hwf
  clear hwf
  go_wp2_with (first | ((with_reducible show wpList _ _ _ (Oper.mk _ (Op.load _ _) _ _ _ _ :: _) _ _); refine wl_ldA (s := shModel) (cs := cs0) rfl rfl rfl c0 hl0.out ?_) | ((with_reducible show wpList _ _ _ (Oper.mk _ (Op.load _ _) _ _ _ _ :: _) _ _); refine wl_ldA (s := shExamples) (cs := cs1) rfl rfl rfl c1 hl1.out ?_))
  refine (toModel_ok cs0 D0 _ r0 hb0).mono ?_
  rintro e w6 ⟨cs_6, bs_6, rfl, own_6, nd_6, lo_6, e_6⟩
  replace e0 := e0.trans e_6
  replace r0 := r0.ext e_6
  replace r1 := r1.ext e_6
  replace c0 := c0.ext e_6
  replace c1 := c1.ext e_6
  have rx_6 := own_6.rep
  clear own_6 nd_6 lo_6 e_6
  have hxcs_6 := hid rx_6.size
  have hycs_6 := hid rx_6.one
  go_wp2_with (first | ((with_reducible show wpList _ _ _ (Oper.mk _ (Op.load _ _) _ _ _ _ :: _) _ _); refine wl_ldA (s := shModel) (cs := cs0) rfl rfl rfl c0 hl0.out ?_) | ((with_reducible show wpList _ _ _ (Oper.mk _ (Op.load _ _) _ _ _ _ :: _) _ _); refine wl_ldA (s := shExamples) (cs := cs1) rfl rfl rfl c1 hl1.out ?_) | ((with_reducible show wpList _ _ _ (Oper.mk _ (Op.store _ _ _) _ _ _ _ :: _) _ _); refine wl_stA (s := shModel) (cs := cs_6) rfl rfl rfl rfl (heap_alloc_new _ _) rfl hxcs_6.out hycs_6.out (by decide) ?_; intro _ cx0 ch7; have E7 := (Ext.alloc _ _).chg ch7 (fun b hb => by subst hb; exact Nat.le_refl _); replace e0 := e0.trans E7; replace r0 := r0.ext E7; replace r1 := r1.ext E7; replace c0 := c0.ext E7; replace c1 := c1.ext E7; replace rx_6 := rx_6.ext E7; clear E7 ch7) | ((with_reducible show wpList _ _ _ (Oper.mk _ (Op.load _ _) _ _ _ _ :: _) _ _); refine wl_ldA (s := shModel) (cs := cs_6) rfl rfl rfl cx0 hxcs_6.out ?_))
  refine (toExamples_ok cs1 D1 _ r1 hb1).mono ?_
  rintro e w8 ⟨cs_8, bs_8, rfl, own_8, nd_8, lo_8, e_8⟩
  replace e0 := e0.trans e_8
  replace r0 := r0.ext e_8
  replace r1 := r1.ext e_8
  replace c0 := c0.ext e_8
  replace c1 := c1.ext e_8
  replace rx_6 := rx_6.ext e_8
  replace cx0 := cx0.ext e_8
  have rx_8 := own_8.rep
  clear own_8 nd_8 lo_8 e_8
  have hxcs_8 := hid rx_8.size
  have hycs_8 := hid rx_8.one
  go_wp2_with (first | ((with_reducible show wpList _ _ _ (Oper.mk _ (Op.load _ _) _ _ _ _ :: _) _ _); refine wl_ldA (s := shModel) (cs := cs0) rfl rfl rfl c0 hl0.out ?_) | ((with_reducible show wpList _ _ _ (Oper.mk _ (Op.load _ _) _ _ _ _ :: _) _ _); refine wl_ldA (s := shExamples) (cs := cs1) rfl rfl rfl c1 hl1.out ?_) | ((with_reducible show wpList _ _ _ (Oper.mk _ (Op.load _ _) _ _ _ _ :: _) _ _); refine wl_ldA (s := shModel) (cs := cs_6) rfl rfl rfl cx0 hxcs_6.out ?_) | ((with_reducible show wpList _ _ _ (Oper.mk _ (Op.store _ _ _) _ _ _ _ :: _) _ _); refine wl_stA (s := shExamples) (cs := cs_8) rfl rfl rfl rfl (heap_alloc_new _ _) rfl hxcs_8.out hycs_8.out (by decide) ?_; intro _ cx1 ch9; have E9 := (Ext.alloc _ _).chg ch9 (fun b hb => by subst hb; exact Nat.le_refl _); replace e0 := e0.trans E9; replace r0 := r0.ext E9; replace r1 := r1.ext E9; replace c0 := c0.ext E9; replace c1 := c1.ext E9; replace rx_6 := rx_6.ext E9; replace cx0 := cx0.ext E9; replace rx_8 := rx_8.ext E9; clear E9 ch9) | ((with_reducible show wpList _ _ _ (Oper.mk _ (Op.load _ _) _ _ _ _ :: _) _ _); refine wl_ldA (s := shExamples) (cs := cs_8) rfl rfl rfl cx1 hxcs_8.out ?_))
  refine (K.out cs_6 cs_8 _ rx_6 rx_8 f0 f1).mono ?_
  rintro e w10 ⟨rfl, e_10⟩
  replace e0 := e0.trans e_10
  replace r0 := r0.ext e_10
  replace r1 := r1.ext e_10
  replace c0 := c0.ext e_10
  replace c1 := c1.ext e_10
  replace rx_6 := rx_6.ext e_10
  replace cx0 := cx0.ext e_10
  replace rx_8 := rx_8.ext e_10
  replace cx1 := cx1.ext e_10
  clear e_10
  go_wp2_with (first | ((with_reducible show wpList _ _ _ (Oper.mk _ (Op.load _ _) _ _ _ _ :: _) _ _); refine wl_ldA (s := shModel) (cs := cs0) rfl rfl rfl c0 hl0.out ?_) | ((with_reducible show wpList _ _ _ (Oper.mk _ (Op.load _ _) _ _ _ _ :: _) _ _); refine wl_ldA (s := shExamples) (cs := cs1) rfl rfl rfl c1 hl1.out ?_) | ((with_reducible show wpList _ _ _ (Oper.mk _ (Op.load _ _) _ _ _ _ :: _) _ _); refine wl_ldA (s := shModel) (cs := cs_6) rfl rfl rfl cx0 hxcs_6.out ?_) | ((with_reducible show wpList _ _ _ (Oper.mk _ (Op.load _ _) _ _ _ _ :: _) _ _); refine wl_ldA (s := shExamples) (cs := cs_8) rfl rfl rfl cx1 hxcs_8.out ?_))
  replace e0 := e0.trans (Ext.drew _)
  replace r0 := r0.ext (Ext.drew _)
  replace r1 := r1.ext (Ext.drew _)
  replace c0 := c0.ext (Ext.drew _)
  replace c1 := c1.ext (Ext.drew _)
  replace rx_6 := rx_6.ext (Ext.drew _)
  replace cx0 := cx0.ext (Ext.drew _)
  replace rx_8 := rx_8.ext (Ext.drew _)
  replace cx1 := cx1.ext (Ext.drew _)
  obtain ⟨F11, hF11⟩ : ∃ F : Option Tmp → World → Value → Prop, F = fun d W u => (match d with | some 50 => ∃ cs', u = ofCs shModel cs' ∧ Rep W shModel cs' D0 | _ => True) := ⟨_, rfl⟩
  have HF11 := hid hF11
  clear hF11
  refine wp_region_xt 3 (F := F11) (by kernel_rfl) (by kernel_rfl) (by kernel_rfl) (by kernel_rfl) (by kernel_rfl) ?_
  intro wf hwf
  simp only [List.take_succ_cons, List.take_zero, List.drop_succ_cons, List.drop_zero]
  first | (refine x_ldA (s := shModel) (cs := cs0) rfl rfl rfl c0 hl0.out ?_) | (refine x_ldA (s := shExamples) (cs := cs1) rfl rfl rfl c1 hl1.out ?_) | (refine x_ldA (s := shModel) (cs := cs_6) rfl rfl rfl cx0 hxcs_6.out ?_) | (refine x_ldA (s := shExamples) (cs := cs_8) rfl rfl rfl cx1 hxcs_8.out ?_)
  simp only [Act.put, ev_tmp, List.setIfInBounds_toArray, List.set_cons_succ, List.set_cons_zero, List.getD_cons_succ, List.getD_cons_zero]
  first | (refine x_ldA (s := shModel) (cs := cs0) rfl rfl rfl c0 hl0.out ?_) | (refine x_ldA (s := shExamples) (cs := cs1) rfl rfl rfl c1 hl1.out ?_) | (refine x_ldA (s := shModel) (cs := cs_6) rfl rfl rfl cx0 hxcs_6.out ?_) | (refine x_ldA (s := shExamples) (cs := cs_8) rfl rfl rfl cx1 hxcs_8.out ?_)
  simp only [Act.put, ev_tmp, List.setIfInBounds_toArray, List.set_cons_succ, List.set_cons_zero, List.getD_cons_succ, List.getD_cons_zero]
  refine x_callf (f := 16) (args := #[ofCs shModel cs0]) rfl rfl Try.func16 rfl (by kernel_rfl) ?_ ?_ ?_; (focus (simp [Act.eval]; done)); (focus (intro w1 hw1; exact ((toModel_ok cs0 D0 w1 (r0.ext hw1) hb0).mono fun e w3 ⟨cs3, bs3, g1, g2, _, _, g3⟩ => ⟨_, g1, g3, by rw [HF11.out]; exact ⟨cs3, rfl, g2.rep⟩⟩))); rintro u w3 e3 e4 hu; simp only [HF11.out] at hu; obtain ⟨cz12, rfl, rz12⟩ := hu; replace rz12 := rz12.ext e4
  simp only [Act.put, ev_tmp, List.setIfInBounds_toArray, List.set_cons_succ, List.set_cons_zero, List.getD_cons_succ, List.getD_cons_zero]
  refine x_nil ?_
  replace e0 := e0.trans hwf
  replace r0 := r0.ext hwf
  replace r1 := r1.ext hwf
  replace c0 := c0.ext hwf
  replace c1 := c1.ext hwf
  replace rx_6 := rx_6.ext hwf
  replace cx0 := cx0.ext hwf
  replace rx_8 := rx_8.ext hwf
  replace cx1 := cx1.ext hwf
  clear hwf
  go_wp2_with fail
  refine (eqModel_ok cs_6 cz12 D0 _ rx_6 rz12 hb0).mono ?_
  rintro e w13 ⟨rfl, e_13⟩
  replace e0 := e0.trans e_13
  replace r0 := r0.ext e_13
  replace r1 := r1.ext e_13
  replace c0 := c0.ext e_13
  replace c1 := c1.ext e_13
  replace rx_6 := rx_6.ext e_13
  replace cx0 := cx0.ext e_13
  replace rx_8 := rx_8.ext e_13
  replace cx1 := cx1.ext e_13
  replace rz12 := rz12.ext e_13
  clear e_13
  go_wp2_with (first | ((with_reducible show wpList _ _ _ (Oper.mk _ (Op.load _ _) _ _ _ _ :: _) _ _); refine wl_ldA (s := shModel) (cs := cs0) rfl rfl rfl c0 hl0.out ?_) | ((with_reducible show wpList _ _ _ (Oper.mk _ (Op.load _ _) _ _ _ _ :: _) _ _); refine wl_ldA (s := shExamples) (cs := cs1) rfl rfl rfl c1 hl1.out ?_) | ((with_reducible show wpList _ _ _ (Oper.mk _ (Op.load _ _) _ _ _ _ :: _) _ _); refine wl_ldA (s := shModel) (cs := cs_6) rfl rfl rfl cx0 hxcs_6.out ?_) | ((with_reducible show wpList _ _ _ (Oper.mk _ (Op.load _ _) _ _ _ _ :: _) _ _); refine wl_ldA (s := shExamples) (cs := cs_8) rfl rfl rfl cx1 hxcs_8.out ?_))
  replace e0 := e0.trans (Ext.drew _)
  replace r0 := r0.ext (Ext.drew _)
  replace r1 := r1.ext (Ext.drew _)
  replace c0 := c0.ext (Ext.drew _)
  replace c1 := c1.ext (Ext.drew _)
  replace rx_6 := rx_6.ext (Ext.drew _)
  replace cx0 := cx0.ext (Ext.drew _)
  replace rx_8 := rx_8.ext (Ext.drew _)
  replace cx1 := cx1.ext (Ext.drew _)
  replace rz12 := rz12.ext (Ext.drew _)
  obtain ⟨F14, hF14⟩ : ∃ F : Option Tmp → World → Value → Prop, F = fun d W u => (match d with | some 55 => ∃ cs', u = ofCs shExamples cs' ∧ Rep W shExamples cs' D1 | _ => True) := ⟨_, rfl⟩
  have HF14 := hid hF14
  clear hF14
  refine wp_region_xt 3 (F := F14) (by kernel_rfl) (by kernel_rfl) (by kernel_rfl) (by kernel_rfl) (by kernel_rfl) ?_
  intro wf hwf
  simp only [List.take_succ_cons, List.take_zero, List.drop_succ_cons, List.drop_zero]
  first | (refine x_ldA (s := shModel) (cs := cs0) rfl rfl rfl c0 hl0.out ?_) | (refine x_ldA (s := shExamples) (cs := cs1) rfl rfl rfl c1 hl1.out ?_) | (refine x_ldA (s := shModel) (cs := cs_6) rfl rfl rfl cx0 hxcs_6.out ?_) | (refine x_ldA (s := shExamples) (cs := cs_8) rfl rfl rfl cx1 hxcs_8.out ?_)
  simp only [Act.put, ev_tmp, List.setIfInBounds_toArray, List.set_cons_succ, List.set_cons_zero, List.getD_cons_succ, List.getD_cons_zero]
  first | (refine x_ldA (s := shModel) (cs := cs0) rfl rfl rfl c0 hl0.out ?_) | (refine x_ldA (s := shExamples) (cs := cs1) rfl rfl rfl c1 hl1.out ?_) | (refine x_ldA (s := shModel) (cs := cs_6) rfl rfl rfl cx0 hxcs_6.out ?_) | (refine x_ldA (s := shExamples) (cs := cs_8) rfl rfl rfl cx1 hxcs_8.out ?_)
  simp only [Act.put, ev_tmp, List.setIfInBounds_toArray, List.set_cons_succ, List.set_cons_zero, List.getD_cons_succ, List.getD_cons_zero]
  refine x_callf (f := 35) (args := #[ofCs shExamples cs1]) rfl rfl Try.func35 rfl (by kernel_rfl) ?_ ?_ ?_; (focus (simp [Act.eval]; done)); (focus (intro w1 hw1; exact ((toExamples_ok cs1 D1 w1 (r1.ext hw1) hb1).mono fun e w3 ⟨cs3, bs3, g1, g2, _, _, g3⟩ => ⟨_, g1, g3, by rw [HF14.out]; exact ⟨cs3, rfl, g2.rep⟩⟩))); rintro u w3 e3 e4 hu; simp only [HF14.out] at hu; obtain ⟨cz15, rfl, rz15⟩ := hu; replace rz15 := rz15.ext e4
  simp only [Act.put, ev_tmp, List.setIfInBounds_toArray, List.set_cons_succ, List.set_cons_zero, List.getD_cons_succ, List.getD_cons_zero]
  refine x_nil ?_
  replace e0 := e0.trans hwf
  replace r0 := r0.ext hwf
  replace r1 := r1.ext hwf
  replace c0 := c0.ext hwf
  replace c1 := c1.ext hwf
  replace rx_6 := rx_6.ext hwf
  replace cx0 := cx0.ext hwf
  replace rx_8 := rx_8.ext hwf
  replace cx1 := cx1.ext hwf
  replace rz12 := rz12.ext hwf
  clear hwf
  go_wp2_with fail
  refine (eqExamples_ok cs_8 cz15 D1 _ rx_8 rz15 hb1).mono ?_
  rintro e w16 ⟨rfl, e_16⟩
  replace e0 := e0.trans e_16
  replace r0 := r0.ext e_16
  replace r1 := r1.ext e_16
  replace c0 := c0.ext e_16
  replace c1 := c1.ext e_16
  replace rx_6 := rx_6.ext e_16
  replace cx0 := cx0.ext e_16
  replace rx_8 := rx_8.ext e_16
  replace cx1 := cx1.ext e_16
  replace rz12 := rz12.ext e_16
  replace rz15 := rz15.ext e_16
  clear e_16
  go_wp2
  go_ret
  exact ⟨rfl, e0⟩
end Go.Proofs.Ytangnigplachdaa.lCountCorrect
