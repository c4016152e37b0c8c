/- The law FnExactIsWhole answers true at every input. -/
import Derived.Test.YtbdcjhhphkckcaaIsT
import Derived.Test.YtbdcjhhphkckcaaFldW
import Derived.Test.YtbdcjhhphkckcaaKb
import Derived.Test.YtbdcjhhphkckcaaKa
namespace Go.Proofs.Ytbdcjhhphkckcaa.lIsWhole
set_option linter.unusedSimpArgs false
set_option linter.unusedVariables false
open Go.RowKit

set_option maxRecDepth 100000 in
set_option maxHeartbeats 1000000 in
theorem law_any (cs0 : List Value) (D0 : Sh.T shLayer) (a1 : Int) (w : World) (h0 : Rep w shLayer cs0 D0) (f0 : Fit shLayer D0) (f1 : Fit .int a1) : Calls Try.prog 9 #[ofCs shLayer cs0, .int .i64 a1] w fun e w' => e = .returned (.bool true) ∧ Ext w w' := by
  have hl0 := hid h0.size
  have ho0 := hid h0.one
  have e0 := Ext.refl w
  have r0 := h0
  go_enter Try.func9, Try.ntmps9
  go_wp2_with (first | ((with_reducible show wpList _ _ _ (Oper.mk _ (Op.box _ _) _ _ _ _ :: _) _ _); refine wl_box (s := shLayer) (cs := cs0) rfl rfl rfl hl0.out ho0.out ?_; intro b0 v0 g0 _ c0; replace e0 := e0.trans g0; replace r0 := r0.ext g0) | ((with_reducible show wpList _ _ _ (Oper.mk _ (Op.load _ _) _ _ _ _ :: _) _ _); refine wl_ldA (s := shLayer) (cs := cs0) rfl rfl rfl c0 hl0.out ?_))
  refine (szLayer_ok cs0 D0 1048576 _ r0 (by omega) (by omega)).mono ?_
  rintro e w1 ⟨⟨s1, rfl, hs1⟩, e101⟩
  replace e0 := e0.trans e101
  replace r0 := r0.ext e101
  replace c0 := c0.ext e101
  clear e101
  by_cases hn1 : s1 < 0
  · go_wp2
    go_ret
    exact ⟨rfl, e0⟩
  have hb0 : tot shLayer D0 ≤ 1048576 := by rcases hs1 with h | h; exact absurd h hn1; omega
  have hz1 : 0 ≤ s1 := by omega
  have ht1 : s1 ≤ 1048576 := by rcases hs1 with h | h; exact absurd h hn1; omega
  clear hs1
  go_wp2_with (first | ((with_reducible show wpList _ _ _ (Oper.mk _ (Op.load _ _) _ _ _ _ :: _) _ _); refine wl_ldA (s := shLayer) (cs := cs0) rfl rfl rfl c0 hl0.out ?_))
  refine (toLayer_ok cs0 D0 _ r0 hb0).mono ?_
  rintro e w2 ⟨cs_2, bs_2, rfl, own_2, nd_2, lo_2, e_2⟩
  replace e0 := e0.trans e_2
  replace r0 := r0.ext e_2
  replace c0 := c0.ext e_2
  have rx_2 := own_2.rep
  clear own_2 nd_2 lo_2 e_2
  have hxcs_2 := hid rx_2.size
  have hycs_2 := hid rx_2.one
  go_wp2_with (first | ((with_reducible show wpList _ _ _ (Oper.mk _ (Op.load _ _) _ _ _ _ :: _) _ _); refine wl_ldA (s := shLayer) (cs := cs0) rfl rfl rfl c0 hl0.out ?_))
  refine (spec_ok cs_2 D0 a1 _ rx_2 f0 f1).mono ?_
  rintro e w3 ⟨rfl, e_3⟩
  replace e0 := e0.trans e_3
  replace r0 := r0.ext e_3
  replace c0 := c0.ext e_3
  replace rx_2 := rx_2.ext e_3
  clear e_3
  have K := hid (fun y0 W => impl_ok y0 D0 a1 W)
  generalize res D0 a1 = r at *
  go_wp2_with (first | ((with_reducible show wpList _ _ _ (Oper.mk _ (Op.load _ _) _ _ _ _ :: _) _ _); refine wl_ldA (s := shLayer) (cs := cs0) rfl rfl rfl c0 hl0.out ?_))
  refine (toLayer_ok cs0 D0 _ r0 hb0).mono ?_
  rintro e w4 ⟨cs_4, bs_4, rfl, own_4, nd_4, lo_4, e_4⟩
  replace e0 := e0.trans e_4
  replace r0 := r0.ext e_4
  replace c0 := c0.ext e_4
  replace rx_2 := rx_2.ext e_4
  have rx_4 := own_4.rep
  clear own_4 nd_4 lo_4 e_4
  have hxcs_4 := hid rx_4.size
  have hycs_4 := hid rx_4.one
  go_wp2_with (first | ((with_reducible show wpList _ _ _ (Oper.mk _ (Op.load _ _) _ _ _ _ :: _) _ _); refine wl_ldA (s := shLayer) (cs := cs0) rfl rfl rfl c0 hl0.out ?_) | ((with_reducible show wpList _ _ _ (Oper.mk _ (Op.store _ _ _) _ _ _ _ :: _) _ _); refine wl_stA (s := shLayer) (cs := cs_4) rfl rfl rfl rfl (heap_alloc_new _ _) rfl hxcs_4.out hycs_4.out (by decide) ?_; intro _ cx0 ch5; have E5 := (Ext.alloc _ _).chg ch5 (fun b hb => by subst hb; exact Nat.le_refl _); replace e0 := e0.trans E5; replace r0 := r0.ext E5; replace c0 := c0.ext E5; replace rx_2 := rx_2.ext E5; replace rx_4 := rx_4.ext E5; clear E5 ch5) | ((with_reducible show wpList _ _ _ (Oper.mk _ (Op.load _ _) _ _ _ _ :: _) _ _); refine wl_ldA (s := shLayer) (cs := cs_4) rfl rfl rfl cx0 hxcs_4.out ?_))
  refine (K.out cs_4 _ rx_4 f0 f1).mono ?_
  rintro e w6 ⟨rfl, e_6⟩
  replace e0 := e0.trans e_6
  replace r0 := r0.ext e_6
  replace c0 := c0.ext e_6
  replace rx_2 := rx_2.ext e_6
  replace rx_4 := rx_4.ext e_6
  replace cx0 := cx0.ext e_6
  clear e_6
  go_wp2_with (first | ((with_reducible show wpList _ _ _ (Oper.mk _ (Op.load _ _) _ _ _ _ :: _) _ _); refine wl_ldA (s := shLayer) (cs := cs0) rfl rfl rfl c0 hl0.out ?_) | ((with_reducible show wpList _ _ _ (Oper.mk _ (Op.load _ _) _ _ _ _ :: _) _ _); refine wl_ldA (s := shLayer) (cs := cs_4) rfl rfl rfl cx0 hxcs_4.out ?_))
  replace e0 := e0.trans (Ext.drew _)
  replace r0 := r0.ext (Ext.drew _)
  replace c0 := c0.ext (Ext.drew _)
  replace rx_2 := rx_2.ext (Ext.drew _)
  replace rx_4 := rx_4.ext (Ext.drew _)
  replace cx0 := cx0.ext (Ext.drew _)
  obtain ⟨F7, hF7⟩ : ∃ F : Option Tmp → World → Value → Prop, F = fun d W u => (match d with | some 28 => ∃ cs', u = ofCs shLayer cs' ∧ Rep W shLayer cs' D0 | _ => True) := ⟨_, rfl⟩
  have HF7 := hid hF7
  clear hF7
  refine wp_region_xt 3 (F := F7) (by kernel_rfl) (by kernel_rfl) (by kernel_rfl) (by kernel_rfl) (by kernel_rfl) ?_
  intro wf hwf
  simp only [List.take_succ_cons, List.take_zero, List.drop_succ_cons, List.drop_zero]
  first | (refine x_ldA (s := shLayer) (cs := cs0) rfl rfl rfl c0 hl0.out ?_) | (refine x_ldA (s := shLayer) (cs := cs_4) rfl rfl rfl cx0 hxcs_4.out ?_)
  simp only [Act.put, ev_tmp, List.setIfInBounds_toArray, List.set_cons_succ, List.set_cons_zero, List.getD_cons_succ, List.getD_cons_zero]
  first | (refine x_ldA (s := shLayer) (cs := cs0) rfl rfl rfl c0 hl0.out ?_) | (refine x_ldA (s := shLayer) (cs := cs_4) rfl rfl rfl cx0 hxcs_4.out ?_)
  simp only [Act.put, ev_tmp, List.setIfInBounds_toArray, List.set_cons_succ, List.set_cons_zero, List.getD_cons_succ, List.getD_cons_zero]
  refine x_callf (f := 55) (args := #[ofCs shLayer cs0]) rfl rfl Try.func55 rfl (by kernel_rfl) ?_ ?_ ?_; (focus (simp [Act.eval]; done)); (focus (intro w1 hw1; exact ((toLayer_ok cs0 D0 w1 (r0.ext hw1) hb0).mono fun e w3 ⟨cs3, bs3, g1, g2, _, _, g3⟩ => ⟨_, g1, g3, by rw [HF7.out]; exact ⟨cs3, rfl, g2.rep⟩⟩))); rintro u w3 e3 e4 hu; simp only [HF7.out] at hu; obtain ⟨cz8, rfl, rz8⟩ := hu; replace rz8 := rz8.ext e4
  simp only [Act.put, ev_tmp, List.setIfInBounds_toArray, List.set_cons_succ, List.set_cons_zero, List.getD_cons_succ, List.getD_cons_zero]
  refine x_nil ?_
  replace e0 := e0.trans hwf
  replace r0 := r0.ext hwf
  replace c0 := c0.ext hwf
  replace rx_2 := rx_2.ext hwf
  replace rx_4 := rx_4.ext hwf
  replace cx0 := cx0.ext hwf
  clear hwf
  go_wp2_with fail
  refine (eqLayer_ok cs_4 cz8 D0 _ rx_4 rz8 hb0).mono ?_
  rintro e w9 ⟨rfl, e_9⟩
  replace e0 := e0.trans e_9
  replace r0 := r0.ext e_9
  replace c0 := c0.ext e_9
  replace rx_2 := rx_2.ext e_9
  replace rx_4 := rx_4.ext e_9
  replace cx0 := cx0.ext e_9
  replace rz8 := rz8.ext e_9
  clear e_9
  go_wp2
  go_ret
  exact ⟨rfl, e0⟩
end Go.Proofs.Ytbdcjhhphkckcaa.lIsWhole
