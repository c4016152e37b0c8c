/- The law FnExactValidExamples answers true at every input. -/
import Derived.Test.YtmcafdcabbighaaExa
import Derived.Test.YtmcafdcabbighaaAgg
namespace Go.Proofs.Ytmcafdcabbighaa.lExa
set_option linter.unusedSimpArgs false
set_option linter.unusedVariables false
open Go.RowKit

def exa (D : shExamples.T) : Bool := exaB D.1.1 D.1.2.1 D.1.2.2.1.length D.2.1.1 D.2.1.2.1 D.2.1.2.2.1.length
theorem spec_ok (cs : List Value) (D : shExamples.T) (w : World) (h : Rep w shExamples cs D) : Calls Try.prog 38 #[ofCs shExamples cs] w (RetB w (exa D)) := by
  obtain ⟨⟨a1_1, a1_2, a1_3, a1_u⟩, ⟨a2_1, a2_2, a2_3, a2_u⟩, au⟩ := D
  obtain ⟨_, _, rfl, ⟨_, _, rfl, rfl, _, _, rfl, rfl, _, _, rfl, ha1_3, rfl⟩, _, _, rfl, ⟨_, _, rfl, rfl, _, _, rfl, rfl, _, _, rfl, ha2_3, rfl⟩, rfl⟩ := h
  obtain ⟨pa1_3, ca1_3, rfl, hla1_3⟩ := rep_val ha1_3
  obtain ⟨pa2_3, ca2_3, rfl, hla2_3⟩ := rep_val ha2_3
  exact specValidExamples_any _ _ _ _ _ _ _ _ _ _ w hla1_3 hla2_3
theorem impl_ok (cs : List Value) (D : shExamples.T) (w : World) (h : Rep w shExamples cs D) : Calls Try.prog 40 #[ofCs shExamples cs] w (RetB w (exa D)) := by
  obtain ⟨⟨a1_1, a1_2, a1_3, a1_u⟩, ⟨a2_1, a2_2, a2_3, a2_u⟩, au⟩ := D
  obtain ⟨_, _, rfl, ⟨_, _, rfl, rfl, _, _, rfl, rfl, _, _, rfl, ha1_3, rfl⟩, _, _, rfl, ⟨_, _, rfl, rfl, _, _, rfl, rfl, _, _, rfl, ha2_3, rfl⟩, rfl⟩ := h
  obtain ⟨pa1_3, ca1_3, rfl, hla1_3⟩ := rep_val ha1_3
  obtain ⟨pa2_3, ca2_3, rfl, hla2_3⟩ := rep_val ha2_3
  exact ValidExamples_any _ _ _ _ _ _ _ _ _ _ w hla1_3 hla2_3

set_option maxRecDepth 100000 in
set_option maxHeartbeats 1000000 in
theorem law_any (cs : List Value) (D : shExamples.T) (w : World) (h : Rep w shExamples cs D) : Calls Try.prog 9 #[ofCs shExamples cs] w fun e w' => e = .returned (.bool true) ∧ Ext w w' := by
  have hl := hid h.size
  have ho := hid h.one
  go_enter Try.func9, Try.ntmps9
  go_wp2_with (first | (refine wl_box (s := shExamples) (cs := cs) rfl rfl rfl hl.out ho.out ?_; intro b0 w0 e0 l0 c0) | (refine wl_ldA (s := shExamples) (cs := cs) rfl rfl rfl c0 hl.out ?_))
  refine (szExamples_ok cs D 1048576 _ (h.ext e0) (by omega) (by omega)).mono ?_
  rintro e w1 ⟨⟨r, rfl, hr⟩, e1⟩
  replace c0 := c0.ext e1
  replace e0 := e0.trans e1
  clear e1
  by_cases hrn : r < 0
  · go_wp2
    go_ret
    exact ⟨rfl, e0⟩
  have hb : tot shExamples D ≤ 1048576 := by rcases hr with h | h; exact absurd h hrn; omega
  clear hr
  go_wp2_with (refine wl_ldA (s := shExamples) (cs := cs) rfl rfl rfl c0 hl.out ?_)
  refine (toExamples_ok cs D _ (h.ext e0) hb).mono ?_
  rintro e w2 ⟨cs2, bs2, rfl, own2, nd2, lo2, e2⟩
  replace c0 := c0.ext e2
  replace e0 := e0.trans e2
  have r2 := own2.rep
  clear own2 nd2 lo2 e2
  go_wp2_with fail
  refine (spec_ok cs2 D _ r2).mono ?_
  rintro e w3 ⟨rfl, e3⟩
  replace c0 := c0.ext e3
  replace e0 := e0.trans e3
  clear e3 r2
  have K := hid (fun cs w => impl_ok cs D w)
  generalize exa D = B at *
  go_wp2_with (refine wl_ldA (s := shExamples) (cs := cs) rfl rfl rfl c0 hl.out ?_)
  refine (toExamples_ok cs D _ (h.ext e0) hb).mono ?_
  rintro e w4 ⟨cs4, bs4, rfl, own4, nd4, lo4, e4⟩
  replace c0 := c0.ext e4
  replace e0 := e0.trans e4
  have r4 := own4.rep
  clear own4 nd4 lo4 e4
  have hl4 := hid r4.size
  have ho4 := hid r4.one
  go_wp2_with (first | (refine wl_stA (s := shExamples) (cs := cs4) rfl rfl rfl rfl (heap_alloc_new _ _) rfl hl4.out ho4.out (by decide) ?_; intro w5 c5 ch5) | (refine wl_ldA (s := shExamples) (cs := cs4) rfl rfl rfl c5 hl4.out ?_))
  have E5 : Ext w4 w5 := (Ext.alloc _ _).chg ch5 (fun b hb => by subst hb; exact Nat.le_refl _)
  replace c0 := c0.ext E5
  replace e0 := e0.trans E5
  replace r4 := r4.ext E5
  clear E5 ch5
  refine (K.out cs4 _ r4).mono ?_
  rintro e w6 ⟨rfl, e6⟩
  replace c0 := (c0.ext e6).ext (Ext.drew _)
  replace c5 := (c5.ext e6).ext (Ext.drew _)
  replace e0 := (e0.trans e6).trans (Ext.drew _)
  replace r4 := (r4.ext e6).ext (Ext.drew _)
  clear e6
  go_wp2
  obtain ⟨F, hF⟩ : ∃ F : Option Tmp → World → Value → Prop, F = fun d W u => (match d with | some 24 => ∃ cs', u = ofCs shExamples cs' ∧ Rep W shExamples cs' D | _ => u = .bool true) := ⟨_, rfl⟩
  have HF := hid hF
  clear hF
  refine wp_region_xt 3 (F := F) (by kernel_rfl) (by kernel_rfl) (by kernel_rfl) (by kernel_rfl) (by kernel_rfl) ?_
  intro wf hwf
  simp only [List.take_succ_cons, List.take_zero, List.drop_succ_cons, List.drop_zero]
  refine x_ldA (s := shExamples) (cs := cs4) rfl rfl rfl c5 hl4.out ?_
  simp only [Act.put, ev_tmp, List.setIfInBounds_toArray, List.set_cons_succ, List.set_cons_zero, List.getD_cons_succ, List.getD_cons_zero]
  refine x_ldA (s := shExamples) (cs := cs) rfl rfl rfl c0 hl.out ?_
  simp only [Act.put, ev_tmp, List.setIfInBounds_toArray, List.set_cons_succ, List.set_cons_zero, List.getD_cons_succ, List.getD_cons_zero]
  refine x_callf (f := 39) (args := #[ofCs shExamples cs]) rfl rfl Try.func39 rfl (by kernel_rfl) ?_ ?_ ?_; (focus (simp [Act.eval]; done)); (focus (intro w1 hw1; exact ((toExamples_ok cs D w1 (h.ext (e0.trans hw1)) hb).mono fun e w3 ⟨cs3, bs3, g1, g2, _, _, g3⟩ => ⟨_, g1, g3, by rw [HF.out]; exact ⟨cs3, rfl, g2.rep⟩⟩))); rintro u w3 e3 e4 hu; simp only [HF.out] at hu; obtain ⟨cs7, rfl, r7⟩ := hu
  simp only [Act.put, ev_tmp, List.setIfInBounds_toArray, List.set_cons_succ, List.set_cons_zero, List.getD_cons_succ, List.getD_cons_zero]
  refine x_nil ?_
  replace r7 := r7.ext e4
  replace r4 := r4.ext hwf
  replace e0 := e0.trans hwf
  clear e3 e4 hwf
  go_wp2_with fail
  refine (eqExamples_ok cs4 cs7 D _ r4 r7 hb).mono ?_
  rintro e w8 ⟨rfl, e8⟩
  go_wp2
  go_ret
  exact ⟨rfl, e0.trans e8⟩
end Go.Proofs.Ytmcafdcabbighaa.lExa
