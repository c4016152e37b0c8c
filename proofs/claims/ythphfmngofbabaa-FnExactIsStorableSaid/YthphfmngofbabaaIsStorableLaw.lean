/- The law FnExactIsStorable answers true at every input. -/
import Derived.Test.YthphfmngofbabaaIStor
import Derived.Test.YthphfmngofbabaaThings
namespace Go.Proofs.Ythphfmngofbabaa.lIsStorable
set_option linter.unusedSimpArgs false
set_option linter.unusedVariables false
open Go.RowKit

set_option maxRecDepth 100000 in
set_option maxHeartbeats 1000000 in
theorem law_any (cs0 : List Value) (D0 : Sh.T shTrainState) (w : World) (h0 : Rep w shTrainState cs0 D0) (f0 : Fit shTrainState D0) : Calls Try.prog 5 #[ofCs shTrainState cs0] w fun e w' => e = .returned (.bool true) ∧ Ext w w' := by
  have hl0 := hid h0.size
  have ho0 := hid h0.one
  have e0 := Ext.refl w
  obtain ⟨N0, hN0⟩ : ∃ N0, N0 = w.heap.size := ⟨_, rfl⟩
  have s := Nat.le_of_eq hN0
  have r0 := h0
  go_enter Try.func5, Try.ntmps5
  go_wp2_with (first | ((with_reducible show wpList _ _ _ (Oper.mk _ (Op.box _ _) _ _ _ _ :: _) _ _); refine wl_box (s := shTrainState) (cs := cs0) rfl rfl rfl hl0.out ho0.out ?_; intro b0 v0 g0 vv0 c0; have mb0 := Nat.le_trans s vv0; replace e0 := e0.trans (g0); replace s := Nat.le_trans s (Ext.size (g0)); replace r0 := h0.ext e0; have vl0 := Cs.blkLt c0 (by rw [hl0.out]; decide); obtain ⟨Nb0, hNb0⟩ : ∃ N, N = v0.heap.size := ⟨_, rfl⟩; rw [← hNb0] at vl0; have s := Nat.le_of_eq hNb0) | ((with_reducible show wpList _ _ _ (Oper.mk _ (Op.load _ _) _ _ _ _ :: _) _ _); refine wl_ldA (s := shTrainState) (cs := cs0) rfl rfl rfl c0 hl0.out ?_))
  refine (szTrainState_ok cs0 D0 1048576 _ r0 (by omega) (by omega)).mono ?_
  rintro e w1 ⟨⟨s1, rfl, hs1⟩, e1⟩
  replace e0 := e0.trans (e1)
  replace s := Nat.le_trans s (Ext.size (e1))
  replace c0 := c0.ext (e1)
  replace r0 := h0.ext e0
  clear e1
  by_cases hn1 : s1 < 0
  · go_wp2
    go_ret
    exact ⟨rfl, e0⟩
  have hb0 : tot shTrainState D0 ≤ 1048576 := by rcases hs1 with h | h; exact absurd h hn1; omega
  have hz1 : 0 ≤ s1 := by omega
  have ht1 : s1 ≤ 1048576 := by rcases hs1 with h | h; exact absurd h hn1; omega
  clear hs1
  go_wp2_with (first | ((with_reducible show wpList _ _ _ (Oper.mk _ (Op.load _ _) _ _ _ _ :: _) _ _); refine wl_ldA (s := shTrainState) (cs := cs0) rfl rfl rfl c0 hl0.out ?_))
  refine (toTrainState_ok cs0 D0 _ r0 hb0).mono ?_
  rintro e w2 ⟨c2, b2, rfl, o2, nd2, lo2, e2⟩
  have m2 := s
  have sz2 := Ext.size e2
  have lt2 := Own.lt o2
  replace e0 := e0.trans (e2)
  replace s := Nat.le_trans s (Ext.size (e2))
  replace c0 := c0.ext (e2)
  replace r0 := h0.ext e0
  clear e2
  obtain ⟨N2, hN2⟩ : ∃ N, N = w2.heap.size := ⟨_, rfl⟩
  rw [← hN2] at sz2 lt2
  have s := Nat.le_of_eq hN2
  have hxc2 := hid o2.rep.size
  have hyc2 := hid o2.rep.one
  go_wp2_with (first | ((with_reducible show wpList _ _ _ (Oper.mk _ (Op.load _ _) _ _ _ _ :: _) _ _); refine wl_ldA (s := shTrainState) (cs := cs0) rfl rfl rfl c0 hl0.out ?_))
  refine (spec_ok c2 D0 _ o2.rep f0).mono ?_
  rintro e w3 ⟨rfl, e3⟩
  have K := hid (fun y0 W => impl_ok y0 D0 W)
  generalize res D0 = r at *
  have m3 := s
  have sz3 := Ext.size e3
  replace e0 := e0.trans (e3)
  replace s := Nat.le_trans s (Ext.size (e3))
  replace c0 := c0.ext (e3)
  replace o2 := o2.ext (e3)
  replace r0 := h0.ext e0
  clear e3
  obtain ⟨N3, hN3⟩ : ∃ N, N = w3.heap.size := ⟨_, rfl⟩
  rw [← hN3] at sz3 
  have s := Nat.le_of_eq hN3
  go_wp2_with (first | ((with_reducible show wpList _ _ _ (Oper.mk _ (Op.load _ _) _ _ _ _ :: _) _ _); refine wl_ldA (s := shTrainState) (cs := cs0) rfl rfl rfl c0 hl0.out ?_))
  refine (toTrainState_ok cs0 D0 _ r0 hb0).mono ?_
  rintro e w4 ⟨c4, b4, rfl, o4, nd4, lo4, e4⟩
  have m4 := s
  have sz4 := Ext.size e4
  have lt4 := Own.lt o4
  replace e0 := e0.trans (e4)
  replace s := Nat.le_trans s (Ext.size (e4))
  replace c0 := c0.ext (e4)
  replace o2 := o2.ext (e4)
  replace r0 := h0.ext e0
  clear e4
  obtain ⟨N4, hN4⟩ : ∃ N, N = w4.heap.size := ⟨_, rfl⟩
  rw [← hN4] at sz4 lt4
  have s := Nat.le_of_eq hN4
  have hxc4 := hid o4.rep.size
  have hyc4 := hid o4.rep.one
  go_wp2_with (first | ((with_reducible show wpList _ _ _ (Oper.mk _ (Op.load _ _) _ _ _ _ :: _) _ _); refine wl_ldA (s := shTrainState) (cs := cs0) rfl rfl rfl c0 hl0.out ?_) | ((with_reducible show wpList _ _ _ (Oper.mk _ (Op.store _ _ _) _ _ _ _ :: _) _ _); refine wl_stA (s := shTrainState) (cs := c4) rfl rfl rfl rfl (by first | exact heap_alloc_new _ _ | exact heap_alloc_old2 _ _ _) rfl hxc4.out hyc4.out (by decide) ?_; intro wc5 cx5 ch5; have E5 := (Ext.of_chg1 ch5); have mc5 := s; replace e0 := e0.trans (E5); replace s := Nat.le_trans s (Ext.size (E5)); replace c0 := c0.ext (E5); replace o2 := o2.ext (E5); replace o4 := o4.ext (E5); replace r0 := h0.ext e0; have vl5 := Cs.blkLt cx5 (by rw [hxc4.out]; decide); obtain ⟨Nc5, hNc5⟩ : ∃ N, N = wc5.heap.size := ⟨_, rfl⟩; rw [← hNc5] at vl5; have s := Nat.le_of_eq hNc5; clear E5 ch5) | ((with_reducible show wpList _ _ _ (Oper.mk _ (Op.load _ _) _ _ _ _ :: _) _ _); refine wl_ldA (s := shTrainState) (cs := c4) rfl rfl rfl cx5 hxc4.out ?_))
  refine (K.out c4 _ o4.rep f0).mono ?_
  rintro e w6 ⟨rfl, e6⟩
  have m6 := s
  have sz6 := Ext.size e6
  replace e0 := e0.trans (e6)
  replace s := Nat.le_trans s (Ext.size (e6))
  replace c0 := c0.ext (e6)
  replace o2 := o2.ext (e6)
  replace o4 := o4.ext (e6)
  replace cx5 := cx5.ext (e6)
  replace r0 := h0.ext e0
  clear e6
  obtain ⟨N6, hN6⟩ : ∃ N, N = w6.heap.size := ⟨_, rfl⟩
  rw [← hN6] at sz6 
  have s := Nat.le_of_eq hN6
  go_wp2_with (first | ((with_reducible show wpList _ _ _ (Oper.mk _ (Op.load _ _) _ _ _ _ :: _) _ _); refine wl_ldA (s := shTrainState) (cs := cs0) rfl rfl rfl c0 hl0.out ?_) | ((with_reducible show wpList _ _ _ (Oper.mk _ (Op.load _ _) _ _ _ _ :: _) _ _); refine wl_ldA (s := shTrainState) (cs := c4) rfl rfl rfl cx5 hxc4.out ?_))
  replace e0 := e0.trans ((Ext.drew _))
  replace s := Nat.le_trans s (Ext.size ((Ext.drew _)))
  replace c0 := c0.ext ((Ext.drew _))
  replace o2 := o2.ext ((Ext.drew _))
  replace o4 := o4.ext ((Ext.drew _))
  replace cx5 := cx5.ext ((Ext.drew _))
  replace r0 := h0.ext e0
  obtain ⟨F7, hF7⟩ : ∃ F : Option Tmp → World → Value → Prop, F = fun d W u => (match d with | some 24 => ∃ cs', u = ofCs shTrainState cs' ∧ Rep W shTrainState cs' D0 | _ => True) := ⟨_, rfl⟩
  have HF7 := hid hF7
  clear hF7
  refine wp_region_xt 3 (F := F7) (by kernel_rfl) (by kernel_rfl) (by kernel_rfl) (by kernel_rfl) (by kernel_rfl) ?_
  intro wf hwf
  simp only [List.take_succ_cons, List.take_zero, List.drop_succ_cons, List.drop_zero]
  first | (refine x_ldA (s := shTrainState) (cs := cs0) rfl rfl rfl c0 hl0.out ?_) | (refine x_ldA (s := shTrainState) (cs := c4) rfl rfl rfl cx5 hxc4.out ?_)
  simp only [Act.put, ev_tmp, List.setIfInBounds_toArray, List.set_cons_succ, List.set_cons_zero, List.getD_cons_succ, List.getD_cons_zero]
  first | (refine x_ldA (s := shTrainState) (cs := cs0) rfl rfl rfl c0 hl0.out ?_) | (refine x_ldA (s := shTrainState) (cs := c4) rfl rfl rfl cx5 hxc4.out ?_)
  simp only [Act.put, ev_tmp, List.setIfInBounds_toArray, List.set_cons_succ, List.set_cons_zero, List.getD_cons_succ, List.getD_cons_zero]
  refine x_callf (f := 15) (args := #[ofCs shTrainState cs0]) rfl rfl Try.func15 rfl (by kernel_rfl) ?_ ?_ ?_; (focus (simp [Act.eval]; done)); (focus (intro w1 hw1; exact ((toTrainState_ok cs0 D0 w1 (r0.ext hw1) hb0).mono fun e w3 ⟨cs3, bs3, g1, g2, _, _, g3⟩ => ⟨_, g1, g3, by rw [HF7.out]; exact ⟨cs3, rfl, g2.rep⟩⟩))); rintro u w3 e3 e4 hu; simp only [HF7.out] at hu; obtain ⟨cz8, rfl, rz8⟩ := hu; replace rz8 := rz8.ext e4
  simp only [Act.put, ev_tmp, List.setIfInBounds_toArray, List.set_cons_succ, List.set_cons_zero, List.getD_cons_succ, List.getD_cons_zero]
  refine x_nil ?_
  replace e0 := e0.trans (hwf)
  replace s := Nat.le_trans s (Ext.size (hwf))
  replace c0 := c0.ext (hwf)
  replace o2 := o2.ext (hwf)
  replace o4 := o4.ext (hwf)
  replace cx5 := cx5.ext (hwf)
  replace r0 := h0.ext e0
  clear hwf
  go_wp2_with fail
  refine (eqTrainState_ok c4 cz8 D0 _ (o4.rep) (rz8) hb0).mono ?_
  rintro e w9 ⟨rfl, e9⟩
  replace e0 := e0.trans (e9)
  replace s := Nat.le_trans s (Ext.size (e9))
  replace c0 := c0.ext (e9)
  replace o2 := o2.ext (e9)
  replace o4 := o4.ext (e9)
  replace cx5 := cx5.ext (e9)
  replace rz8 := rz8.ext (e9)
  replace r0 := h0.ext e0
  clear e9
  go_wp2
  go_ret
  exact ⟨rfl, e0⟩
end Go.Proofs.Ythphfmngofbabaa.lIsStorable
