/- The law FnExactConfusionOf answers true at every input. -/
import Derived.Test.YtangnigplachdaaConf3
import Derived.Test.YtangnigplachdaaKb
import Derived.Test.YtangnigplachdaaKf
namespace Go.Proofs.Ytangnigplachdaa.lConfusionOf
set_option linter.unusedSimpArgs false
set_option linter.unusedVariables false
open Go.RowKit

set_option maxRecDepth 100000 in
set_option maxHeartbeats 1000000 in
theorem law_any (cs0 : List Value) (D0 : Sh.T shModel) (cs1 : List Value) (D1 : Sh.T shTensor) (cs2 : List Value) (D2 : Sh.T (.sl .int)) (w : World) (h0 : Rep w shModel cs0 D0) (h1 : Rep w shTensor cs1 D1) (h2 : Rep w (.sl .int) cs2 D2) (f0 : Fit shModel D0) (f1 : Fit shTensor D1) (f2 : Fit (.sl .int) D2) : Calls Try.prog 10 #[ofCs shModel cs0, ofCs shTensor cs1, ofCs (.sl .int) cs2] w fun e w' => e = .returned (.bool true) ∧ Ext w w' := by
  have hl0 := hid h0.size
  have ho0 := hid h0.one
  have hl1 := hid h1.size
  have ho1 := hid h1.one
  have hl2 := hid h2.size
  have ho2 := hid h2.one
  obtain ⟨p2, q2, rfl, hm2⟩ := rep_val h2
  rw [show ofCs (.sl .int) [.slice p2 (List.length D2) q2] = .slice p2 (List.length D2) q2 from rfl]
  have e0 := Ext.refl w
  obtain ⟨N0, hN0⟩ : ∃ N0, N0 = w.heap.size := ⟨_, rfl⟩
  have s := Nat.le_of_eq hN0
  have r0 := h0
  have r1 := h1
  have r2 := h2
  go_enter Try.func10, Try.ntmps10
  by_cases hbig2 : 1048576 < List.length D2
  · go_wp2_with (first | ((with_reducible show wpList _ _ _ (Oper.mk _ (Op.box _ _) _ _ _ _ :: _) _ _); refine wl_box (s := shModel) (cs := cs0) rfl rfl rfl hl0.out ho0.out ?_; intro b0 v0 g0 vv0 c0; have mb0 := Nat.le_trans s vv0; replace e0 := e0.trans (g0); replace s := Nat.le_trans s (Ext.size (g0)); replace r0 := h0.ext e0; replace r1 := h1.ext e0; replace r2 := h2.ext e0; have vl0 := Cs.blkLt c0 (by rw [hl0.out]; decide); obtain ⟨Nb0, hNb0⟩ : ∃ N, N = v0.heap.size := ⟨_, rfl⟩; rw [← hNb0] at vl0; have s := Nat.le_of_eq hNb0) | ((with_reducible show wpList _ _ _ (Oper.mk _ (Op.box _ _) _ _ _ _ :: _) _ _); refine wl_box (s := shTensor) (cs := cs1) rfl rfl rfl hl1.out ho1.out ?_; intro b1 v1 g1 vv1 c1; have mb1 := Nat.le_trans s vv1; replace e0 := e0.trans (g1); replace s := Nat.le_trans s (Ext.size (g1)); replace r0 := h0.ext e0; replace r1 := h1.ext e0; replace r2 := h2.ext e0; replace c0 := c0.ext g1; have vl1 := Cs.blkLt c1 (by rw [hl1.out]; decide); obtain ⟨Nb1, hNb1⟩ : ∃ N, N = v1.heap.size := ⟨_, rfl⟩; rw [← hNb1] at vl1; have s := Nat.le_of_eq hNb1) | ((with_reducible show wpList _ _ _ (Oper.mk _ (Op.load _ _) _ _ _ _ :: _) _ _); refine wl_ldAw (s := shModel) (cs := cs0) (by first | rfl | (go_simp; done) | (go_simp; omega)) rfl rfl c0 hl0.out ?_) | ((with_reducible show wpList _ _ _ (Oper.mk _ (Op.load _ _) _ _ _ _ :: _) _ _); refine wl_ldAw (s := shTensor) (cs := cs1) (by first | rfl | (go_simp; done) | (go_simp; omega)) rfl rfl c1 hl1.out ?_))
    go_ret
    exact ⟨rfl, e0⟩
  have hb2 : tot (.sl .int) D2 ≤ 1048576 := by rw [tot_ints]; omega
  go_wp2_with (first | ((with_reducible show wpList _ _ _ (Oper.mk _ (Op.box _ _) _ _ _ _ :: _) _ _); refine wl_box (s := shModel) (cs := cs0) rfl rfl rfl hl0.out ho0.out ?_; intro b0 v0 g0 vv0 c0; have mb0 := Nat.le_trans s vv0; replace e0 := e0.trans (g0); replace s := Nat.le_trans s (Ext.size (g0)); replace r0 := h0.ext e0; replace r1 := h1.ext e0; replace r2 := h2.ext e0; have vl0 := Cs.blkLt c0 (by rw [hl0.out]; decide); obtain ⟨Nb0, hNb0⟩ : ∃ N, N = v0.heap.size := ⟨_, rfl⟩; rw [← hNb0] at vl0; have s := Nat.le_of_eq hNb0) | ((with_reducible show wpList _ _ _ (Oper.mk _ (Op.box _ _) _ _ _ _ :: _) _ _); refine wl_box (s := shTensor) (cs := cs1) rfl rfl rfl hl1.out ho1.out ?_; intro b1 v1 g1 vv1 c1; have mb1 := Nat.le_trans s vv1; replace e0 := e0.trans (g1); replace s := Nat.le_trans s (Ext.size (g1)); replace r0 := h0.ext e0; replace r1 := h1.ext e0; replace r2 := h2.ext e0; replace c0 := c0.ext g1; have vl1 := Cs.blkLt c1 (by rw [hl1.out]; decide); obtain ⟨Nb1, hNb1⟩ : ∃ N, N = v1.heap.size := ⟨_, rfl⟩; rw [← hNb1] at vl1; have s := Nat.le_of_eq hNb1) | ((with_reducible show wpList _ _ _ (Oper.mk _ (Op.load _ _) _ _ _ _ :: _) _ _); refine wl_ldAw (s := shModel) (cs := cs0) (by first | rfl | (go_simp; done) | (go_simp; omega)) rfl rfl c0 hl0.out ?_) | ((with_reducible show wpList _ _ _ (Oper.mk _ (Op.load _ _) _ _ _ _ :: _) _ _); refine wl_ldAw (s := shTensor) (cs := cs1) (by first | rfl | (go_simp; done) | (go_simp; omega)) rfl rfl c1 hl1.out ?_))
  refine (szModel_ok cs0 D0 1048576 _ r0 (by omega) (by omega)).mono ?_
  rintro e w1 ⟨⟨s1, rfl, hs1⟩, e1⟩
  replace e0 := e0.trans (e1)
  replace s := Nat.le_trans s (Ext.size (e1))
  replace c0 := c0.ext (e1)
  replace c1 := c1.ext (e1)
  replace r0 := h0.ext e0
  replace r1 := h1.ext e0
  replace r2 := h2.ext e0
  clear e1
  by_cases hn1 : s1 < 0
  · go_wp2
    go_ret
    exact ⟨rfl, e0⟩
  have hb0 : tot shModel D0 ≤ 1048576 := by rcases hs1 with h | h; exact absurd h hn1; omega
  have hz1 : 0 ≤ s1 := by omega
  have ht1 : s1 ≤ 1048576 := by rcases hs1 with h | h; exact absurd h hn1; omega
  clear hs1
  go_wp2_with (first | ((with_reducible show wpList _ _ _ (Oper.mk _ (Op.load _ _) _ _ _ _ :: _) _ _); refine wl_ldAw (s := shModel) (cs := cs0) (by first | rfl | (go_simp; done) | (go_simp; omega)) rfl rfl c0 hl0.out ?_) | ((with_reducible show wpList _ _ _ (Oper.mk _ (Op.load _ _) _ _ _ _ :: _) _ _); refine wl_ldAw (s := shTensor) (cs := cs1) (by first | rfl | (go_simp; done) | (go_simp; omega)) rfl rfl c1 hl1.out ?_))
  refine (szTensor_ok cs1 D1 s1 _ r1 (by omega) (by omega)).mono ?_
  rintro e w2 ⟨⟨s2, rfl, hs2⟩, e2⟩
  replace e0 := e0.trans (e2)
  replace s := Nat.le_trans s (Ext.size (e2))
  replace c0 := c0.ext (e2)
  replace c1 := c1.ext (e2)
  replace r0 := h0.ext e0
  replace r1 := h1.ext e0
  replace r2 := h2.ext e0
  clear e2
  by_cases hn2 : s2 < 0
  · go_wp2
    go_ret
    exact ⟨rfl, e0⟩
  have hb1 : tot shTensor D1 ≤ 1048576 := by rcases hs2 with h | h; exact absurd h hn2; omega
  have hz2 : 0 ≤ s2 := by omega
  have ht2 : s2 ≤ 1048576 := by rcases hs2 with h | h; exact absurd h hn2; omega
  clear hs2
  go_wp2_with (first | ((with_reducible show wpList _ _ _ (Oper.mk _ (Op.load _ _) _ _ _ _ :: _) _ _); refine wl_ldAw (s := shModel) (cs := cs0) (by first | rfl | (go_simp; done) | (go_simp; omega)) rfl rfl c0 hl0.out ?_) | ((with_reducible show wpList _ _ _ (Oper.mk _ (Op.load _ _) _ _ _ _ :: _) _ _); refine wl_ldAw (s := shTensor) (cs := cs1) (by first | rfl | (go_simp; done) | (go_simp; omega)) rfl rfl c1 hl1.out ?_))
  replace e0 := e0.trans ((Ext.drew _))
  replace s := Nat.le_trans s (Ext.size ((Ext.drew _)))
  replace c0 := c0.ext ((Ext.drew _))
  replace c1 := c1.ext ((Ext.drew _))
  replace r0 := h0.ext e0
  replace r1 := h1.ext e0
  replace r2 := h2.ext e0
  have hbr0 := res_bd D0 D1 D2 hb0 hb1 hb2 f0 f1 f2
  have KS := hid (fun y0 y1 y2 W => spec_ok y0 D0 y1 D1 y2 D2 W)
  have K := hid (fun y0 y1 y2 W => impl_ok y0 D0 y1 D1 y2 D2 W)
  generalize res D0 D1 D2 = r at *
  obtain ⟨R0, R1⟩ := r
  dsimp only at hbr0
  obtain ⟨Nd3, hNd3, sNd3⟩ := ext_size e0
  rw [← hNd3] at s
  have md3 := s
  have s := sNd3
  obtain ⟨F3, hF3⟩ : ∃ F : Option Tmp → World → Value → Prop, F = fun d W u => (match d with | some 35 => ∃ cs', u = ofCs shModel cs' ∧ Rep W shModel cs' D0 | some 37 => ∃ cs', u = ofCs shTensor cs' ∧ Rep W shTensor cs' D1 | some 39 => ∃ cs', u = ofCs (.sl .int) cs' ∧ Rep W (.sl .int) cs' D2 | some 40 => ∃ cs' bs', u = .tuple #[ofCs shInt64SS cs', .bool R1] ∧ Own W shInt64SS cs' R0 bs' ∧ bs'.Nodup ∧ (∀ b ∈ bs', Nd3 ≤ b) | _ => True) := ⟨_, rfl⟩
  have HF3 := hid hF3
  clear hF3
  refine wp_region_xall (F := F3) (by kernel_rfl) (by kernel_rfl) (by kernel_rfl) ?_
  intro wf hwf
  first | (refine x_ldA (s := shModel) (cs := cs0) rfl rfl rfl c0 hl0.out ?_) | (refine x_ldA (s := shTensor) (cs := cs1) rfl rfl rfl c1 hl1.out ?_)
  simp only [Act.put, ev_tmp, List.setIfInBounds_toArray, List.set_cons_succ, List.set_cons_zero, List.getD_cons_succ, List.getD_cons_zero]
  refine x_callf (f := 16) (args := #[ofCs shModel cs0]) rfl rfl Try.func16 rfl (by kernel_rfl) ?_ ?_ ?_; (focus (simp [Act.eval]; done)); (focus (intro w1 hw1; exact ((toModel_ok cs0 D0 w1 (r0.ext hw1) hb0).mono fun e w3 ⟨cs3, bs3, g1, g2, _, _, g3⟩ => ⟨_, g1, g3, by rw [HF3.out]; exact ⟨cs3, rfl, g2.rep⟩⟩))); rintro u w3 e3 e4 hu; simp only [HF3.out] at hu; obtain ⟨cz4, rfl, rz4⟩ := hu; clear rz4
  simp only [Act.put, ev_tmp, List.setIfInBounds_toArray, List.set_cons_succ, List.set_cons_zero, List.getD_cons_succ, List.getD_cons_zero]
  first | (refine x_ldA (s := shModel) (cs := cs0) rfl rfl rfl c0 hl0.out ?_) | (refine x_ldA (s := shTensor) (cs := cs1) rfl rfl rfl c1 hl1.out ?_)
  simp only [Act.put, ev_tmp, List.setIfInBounds_toArray, List.set_cons_succ, List.set_cons_zero, List.getD_cons_succ, List.getD_cons_zero]
  refine x_callf (f := 28) (args := #[ofCs shTensor cs1]) rfl rfl Try.func28 rfl (by kernel_rfl) ?_ ?_ ?_; (focus (simp [Act.eval]; done)); (focus (intro w1 hw1; exact ((toTensor_ok cs1 D1 w1 (r1.ext hw1) hb1).mono fun e w3 ⟨cs3, bs3, g1, g2, _, _, g3⟩ => ⟨_, g1, g3, by rw [HF3.out]; exact ⟨cs3, rfl, g2.rep⟩⟩))); rintro u w3 e3 e4 hu; simp only [HF3.out] at hu; obtain ⟨cz5, rfl, rz5⟩ := hu; clear rz5
  simp only [Act.put, ev_tmp, List.setIfInBounds_toArray, List.set_cons_succ, List.set_cons_zero, List.getD_cons_succ, List.getD_cons_zero]
  refine x_mv rfl rfl rfl ?_
  simp only [Act.put, ev_tmp, List.setIfInBounds_toArray, List.set_cons_succ, List.set_cons_zero, List.getD_cons_succ, List.getD_cons_zero]
  refine x_callf (f := 39) (args := #[.slice p2 (List.length D2) q2]) rfl rfl Try.func39 rfl (by kernel_rfl) ?_ ?_ ?_; (focus (simp [Act.eval]; done)); (focus (intro w1 hw1; exact ((toInt64S_ok [.slice p2 (List.length D2) q2] D2 w1 (r2.ext hw1) hb2).mono fun e w3 ⟨cs3, bs3, g1, g2, _, _, g3⟩ => ⟨_, g1, g3, by rw [HF3.out]; exact ⟨cs3, rfl, g2.rep⟩⟩))); rintro u w3 e3 e4 hu; simp only [HF3.out] at hu; obtain ⟨cz6, rfl, rz6⟩ := hu; clear rz6
  simp only [Act.put, ev_tmp, List.setIfInBounds_toArray, List.set_cons_succ, List.set_cons_zero, List.getD_cons_succ, List.getD_cons_zero]
  refine x_callK (f := 60) (args := #[ofCs shModel cz4, ofCs shTensor cz5, ofCs (.sl .int) cz6]) rfl rfl Try.func60 rfl (by kernel_rfl) ?_ ?_ ?_; (focus (simp [Act.eval]; done)); (focus (intro w1 hw1 hK; exact (by (obtain ⟨wa0, ga0, gb0, gc0⟩ := known_call hK (j := 1) (d := 35) (by kernel_rfl) rfl rfl rfl rfl Try.func16 rfl (by kernel_rfl) (by simp); rw [HF3.out] at gc0; obtain ⟨ca0, hca0, ra0⟩ := gc0; have hcb0 : ofCs shModel cz4 = ofCs shModel ca0 := hca0; rw [hcb0]; obtain ⟨wa1, ga1, gb1, gc1⟩ := known_call hK (j := 3) (d := 37) (by kernel_rfl) rfl rfl rfl rfl Try.func28 rfl (by kernel_rfl) (by simp); rw [HF3.out] at gc1; obtain ⟨ca1, hca1, ra1⟩ := gc1; have hcb1 : ofCs shTensor cz5 = ofCs shTensor ca1 := hca1; rw [hcb1]; obtain ⟨wa2, ga2, gb2, gc2⟩ := known_call hK (j := 5) (d := 39) (by kernel_rfl) rfl rfl rfl rfl Try.func39 rfl (by kernel_rfl) (by simp); rw [HF3.out] at gc2; obtain ⟨ca2, hca2, ra2⟩ := gc2; have hcb2 : ofCs (.sl .int) cz6 = ofCs (.sl .int) ca2 := hca2; rw [hcb2]; rw [HF3.out]; exact (KS.out ca0 ca1 ca2 w1 (ra0.ext gb0) (ra1.ext gb1) (ra2.ext gb2) f0 f1 f2).mono fun e w3 ⟨cs3, bs3, g1, g2, g3, g4, g6⟩ => ⟨_, g1, g6, ⟨cs3, bs3, rfl, g2, g3, fun b hb => Nat.le_trans (by rw [hNd3]; exact hw1.size) (g4 b hb)⟩⟩)))); rintro u w3 e3 e4 hu; simp only [HF3.out] at hu; obtain ⟨c7_0, b7_0, rfl, o7_0, nd7_0, lo7_0⟩ := hu; replace o7_0 := o7_0.ext e4
  simp only [Act.put, ev_tmp, List.setIfInBounds_toArray, List.set_cons_succ, List.set_cons_zero, List.getD_cons_succ, List.getD_cons_zero]
  refine x_mv rfl rfl rfl ?_
  simp only [Act.put, ev_tmp, List.setIfInBounds_toArray, List.set_cons_succ, List.set_cons_zero, List.getD_cons_succ, List.getD_cons_zero]
  refine x_run rfl fun K hK w1 _ => ?_
  go_simp
  refine hK _ ?_
  clear hK K
  refine x_run rfl fun K hK w1 _ => ?_
  go_simp
  refine hK _ ?_
  clear hK K
  refine x_as rfl rfl rfl ?_
  simp only [Act.put, ev_tmp, List.setIfInBounds_toArray, List.set_cons_succ, List.set_cons_zero, List.getD_cons_succ, List.getD_cons_zero]
  refine x_as rfl rfl rfl ?_
  simp only [Act.put, ev_tmp, List.setIfInBounds_toArray, List.set_cons_succ, List.set_cons_zero, List.getD_cons_succ, List.getD_cons_zero]
  refine x_nil ?_
  replace e0 := e0.trans (hwf)
  replace s := Nat.le_trans s (Ext.size (hwf))
  replace c0 := c0.ext (hwf)
  replace c1 := c1.ext (hwf)
  replace r0 := h0.ext e0
  replace r1 := h1.ext e0
  replace r2 := h2.ext e0
  have lt7_0 := Own.lt o7_0
  have szf7 := Ext.size hwf
  obtain ⟨N7, hN7⟩ : ∃ N, N = wf.heap.size := ⟨_, rfl⟩
  rw [← hN7] at lt7_0 szf7 s
  have mm7 := s
  have s := Nat.le_of_eq hN7
  clear hwf
  obtain ⟨p_c7_0, q_c7_0, rfl, hm_c7_0⟩ := rep_val o7_0.rep
  simp only [ofCs, Sh.agg, List.headD_cons, Bool.false_eq_true, if_false]
  go_wp2_with (first | ((with_reducible show wpList _ _ _ (Oper.mk _ (Op.load _ _) _ _ _ _ :: _) _ _); refine wl_ldAw (s := shModel) (cs := cs0) (by first | rfl | (go_simp; done) | (go_simp; omega)) rfl rfl c0 hl0.out ?_) | ((with_reducible show wpList _ _ _ (Oper.mk _ (Op.load _ _) _ _ _ _ :: _) _ _); refine wl_ldAw (s := shTensor) (cs := cs1) (by first | rfl | (go_simp; done) | (go_simp; omega)) rfl rfl c1 hl1.out ?_))
  refine (toModel_ok cs0 D0 _ r0 hb0).mono ?_
  rintro e w8 ⟨c8, b8, rfl, o8, nd8, lo8, e8⟩
  have m8 := s
  have sz8 := Ext.size e8
  have lt8 := Own.lt o8
  replace e0 := e0.trans (e8)
  replace s := Nat.le_trans s (Ext.size (e8))
  replace c0 := c0.ext (e8)
  replace c1 := c1.ext (e8)
  replace o7_0 := o7_0.ext (e8)
  replace r0 := h0.ext e0
  replace r1 := h1.ext e0
  replace r2 := h2.ext e0
  clear e8
  obtain ⟨N8, hN8⟩ : ∃ N, N = w8.heap.size := ⟨_, rfl⟩
  rw [← hN8] at sz8 lt8
  have s := Nat.le_of_eq hN8
  have hxc8 := hid o8.rep.size
  have hyc8 := hid o8.rep.one
  go_wp2_with (first | ((with_reducible show wpList _ _ _ (Oper.mk _ (Op.load _ _) _ _ _ _ :: _) _ _); refine wl_ldAw (s := shModel) (cs := cs0) (by first | rfl | (go_simp; done) | (go_simp; omega)) rfl rfl c0 hl0.out ?_) | ((with_reducible show wpList _ _ _ (Oper.mk _ (Op.load _ _) _ _ _ _ :: _) _ _); refine wl_ldAw (s := shTensor) (cs := cs1) (by first | rfl | (go_simp; done) | (go_simp; omega)) rfl rfl c1 hl1.out ?_) | ((with_reducible show wpList _ _ _ (Oper.mk _ (Op.store _ _ _) _ _ _ _ :: _) _ _); refine wl_stA (s := shModel) (cs := c8) rfl rfl rfl rfl (by first | exact heap_alloc_new _ _ | exact heap_alloc_old2 _ _ _) rfl hxc8.out hyc8.out (by decide) ?_; intro wc9 cx9 ch9; have E9 := (Ext.of_chg1 ch9); have mc9 := s; replace e0 := e0.trans (E9); replace s := Nat.le_trans s (Ext.size (E9)); replace c0 := c0.ext (E9); replace c1 := c1.ext (E9); replace o7_0 := o7_0.ext (E9); replace o8 := o8.ext (E9); replace r0 := h0.ext e0; replace r1 := h1.ext e0; replace r2 := h2.ext e0; have vl9 := Cs.blkLt cx9 (by rw [hxc8.out]; decide); obtain ⟨Nc9, hNc9⟩ : ∃ N, N = wc9.heap.size := ⟨_, rfl⟩; rw [← hNc9] at vl9; have s := Nat.le_of_eq hNc9; clear E9 ch9) | ((with_reducible show wpList _ _ _ (Oper.mk _ (Op.load _ _) _ _ _ _ :: _) _ _); refine wl_ldAw (s := shModel) (cs := c8) (by first | rfl | (go_simp; done) | (go_simp; omega)) rfl rfl cx9 hxc8.out ?_))
  refine (toTensor_ok cs1 D1 _ r1 hb1).mono ?_
  rintro e w10 ⟨c10, b10, rfl, o10, nd10, lo10, e10⟩
  have m10 := s
  have sz10 := Ext.size e10
  have lt10 := Own.lt o10
  replace e0 := e0.trans (e10)
  replace s := Nat.le_trans s (Ext.size (e10))
  replace c0 := c0.ext (e10)
  replace c1 := c1.ext (e10)
  replace o7_0 := o7_0.ext (e10)
  replace o8 := o8.ext (e10)
  replace cx9 := cx9.ext (e10)
  replace r0 := h0.ext e0
  replace r1 := h1.ext e0
  replace r2 := h2.ext e0
  clear e10
  obtain ⟨N10, hN10⟩ : ∃ N, N = w10.heap.size := ⟨_, rfl⟩
  rw [← hN10] at sz10 lt10
  have s := Nat.le_of_eq hN10
  have hxc10 := hid o10.rep.size
  have hyc10 := hid o10.rep.one
  go_wp2_with (first | ((with_reducible show wpList _ _ _ (Oper.mk _ (Op.load _ _) _ _ _ _ :: _) _ _); refine wl_ldAw (s := shModel) (cs := cs0) (by first | rfl | (go_simp; done) | (go_simp; omega)) rfl rfl c0 hl0.out ?_) | ((with_reducible show wpList _ _ _ (Oper.mk _ (Op.load _ _) _ _ _ _ :: _) _ _); refine wl_ldAw (s := shTensor) (cs := cs1) (by first | rfl | (go_simp; done) | (go_simp; omega)) rfl rfl c1 hl1.out ?_) | ((with_reducible show wpList _ _ _ (Oper.mk _ (Op.load _ _) _ _ _ _ :: _) _ _); refine wl_ldAw (s := shModel) (cs := c8) (by first | rfl | (go_simp; done) | (go_simp; omega)) rfl rfl cx9 hxc8.out ?_) | ((with_reducible show wpList _ _ _ (Oper.mk _ (Op.store _ _ _) _ _ _ _ :: _) _ _); refine wl_stA (s := shTensor) (cs := c10) rfl rfl rfl rfl (by first | exact heap_alloc_new _ _ | exact heap_alloc_old2 _ _ _) rfl hxc10.out hyc10.out (by decide) ?_; intro wc11 cx11 ch11; have E11 := (Ext.of_chg1 ch11); have mc11 := s; replace e0 := e0.trans (E11); replace s := Nat.le_trans s (Ext.size (E11)); replace c0 := c0.ext (E11); replace c1 := c1.ext (E11); replace o7_0 := o7_0.ext (E11); replace o8 := o8.ext (E11); replace cx9 := cx9.ext (E11); replace o10 := o10.ext (E11); replace r0 := h0.ext e0; replace r1 := h1.ext e0; replace r2 := h2.ext e0; have vl11 := Cs.blkLt cx11 (by rw [hxc10.out]; decide); obtain ⟨Nc11, hNc11⟩ : ∃ N, N = wc11.heap.size := ⟨_, rfl⟩; rw [← hNc11] at vl11; have s := Nat.le_of_eq hNc11; clear E11 ch11) | ((with_reducible show wpList _ _ _ (Oper.mk _ (Op.load _ _) _ _ _ _ :: _) _ _); refine wl_ldAw (s := shTensor) (cs := c10) (by first | rfl | (go_simp; done) | (go_simp; omega)) rfl rfl cx11 hxc10.out ?_))
  refine (toInt64S_ok [.slice p2 (List.length D2) q2] D2 _ r2 hb2).mono ?_
  rintro e w12 ⟨c12, b12, rfl, o12, nd12, lo12, e12⟩
  have m12 := s
  have sz12 := Ext.size e12
  have lt12 := Own.lt o12
  replace e0 := e0.trans (e12)
  replace s := Nat.le_trans s (Ext.size (e12))
  replace c0 := c0.ext (e12)
  replace c1 := c1.ext (e12)
  replace o7_0 := o7_0.ext (e12)
  replace o8 := o8.ext (e12)
  replace cx9 := cx9.ext (e12)
  replace o10 := o10.ext (e12)
  replace cx11 := cx11.ext (e12)
  replace r0 := h0.ext e0
  replace r1 := h1.ext e0
  replace r2 := h2.ext e0
  clear e12
  obtain ⟨N12, hN12⟩ : ∃ N, N = w12.heap.size := ⟨_, rfl⟩
  rw [← hN12] at sz12 lt12
  have s := Nat.le_of_eq hN12
  obtain ⟨p_c12, q_c12, rfl, hm_c12⟩ := rep_val o12.rep
  simp only [ofCs, Sh.agg, List.headD_cons, Bool.false_eq_true, if_false]
  go_wp2_with (first | ((with_reducible show wpList _ _ _ (Oper.mk _ (Op.load _ _) _ _ _ _ :: _) _ _); refine wl_ldAw (s := shModel) (cs := cs0) (by first | rfl | (go_simp; done) | (go_simp; omega)) rfl rfl c0 hl0.out ?_) | ((with_reducible show wpList _ _ _ (Oper.mk _ (Op.load _ _) _ _ _ _ :: _) _ _); refine wl_ldAw (s := shTensor) (cs := cs1) (by first | rfl | (go_simp; done) | (go_simp; omega)) rfl rfl c1 hl1.out ?_) | ((with_reducible show wpList _ _ _ (Oper.mk _ (Op.load _ _) _ _ _ _ :: _) _ _); refine wl_ldAw (s := shModel) (cs := c8) (by first | rfl | (go_simp; done) | (go_simp; omega)) rfl rfl cx9 hxc8.out ?_) | ((with_reducible show wpList _ _ _ (Oper.mk _ (Op.load _ _) _ _ _ _ :: _) _ _); refine wl_ldAw (s := shTensor) (cs := c10) (by first | rfl | (go_simp; done) | (go_simp; omega)) rfl rfl cx11 hxc10.out ?_))
  refine (K.out c8 c10 [.slice p_c12 (List.length D2) q_c12] _ o8.rep o10.rep o12.rep f0 f1 f2).mono ?_
  rintro e w13 ⟨c13_0, b13_0, rfl, o13_0, nd13_0, lo13_0, e13⟩
  dsimp only at o13_0
  have m13 := s
  have sz13 := Ext.size e13
  have lt13_0 := Own.lt o13_0
  replace e0 := e0.trans (e13)
  replace s := Nat.le_trans s (Ext.size (e13))
  replace c0 := c0.ext (e13)
  replace c1 := c1.ext (e13)
  replace o7_0 := o7_0.ext (e13)
  replace o8 := o8.ext (e13)
  replace cx9 := cx9.ext (e13)
  replace o10 := o10.ext (e13)
  replace cx11 := cx11.ext (e13)
  replace o12 := o12.ext (e13)
  replace r0 := h0.ext e0
  replace r1 := h1.ext e0
  replace r2 := h2.ext e0
  clear e13
  obtain ⟨N13, hN13⟩ : ∃ N, N = w13.heap.size := ⟨_, rfl⟩
  rw [← hN13] at sz13 lt13_0
  have s := Nat.le_of_eq hN13
  obtain ⟨p_c13_0, q_c13_0, rfl, hm_c13_0⟩ := rep_val o13_0.rep
  simp only [ofCs, Sh.agg, List.headD_cons, Bool.false_eq_true, if_false]
  go_wp2_with (first | ((with_reducible show wpList _ _ _ (Oper.mk _ (Op.load _ _) _ _ _ _ :: _) _ _); refine wl_ldAw (s := shModel) (cs := cs0) (by first | rfl | (go_simp; done) | (go_simp; omega)) rfl rfl c0 hl0.out ?_) | ((with_reducible show wpList _ _ _ (Oper.mk _ (Op.load _ _) _ _ _ _ :: _) _ _); refine wl_ldAw (s := shTensor) (cs := cs1) (by first | rfl | (go_simp; done) | (go_simp; omega)) rfl rfl c1 hl1.out ?_) | ((with_reducible show wpList _ _ _ (Oper.mk _ (Op.load _ _) _ _ _ _ :: _) _ _); refine wl_ldAw (s := shModel) (cs := c8) (by first | rfl | (go_simp; done) | (go_simp; omega)) rfl rfl cx9 hxc8.out ?_) | ((with_reducible show wpList _ _ _ (Oper.mk _ (Op.load _ _) _ _ _ _ :: _) _ _); refine wl_ldAw (s := shTensor) (cs := c10) (by first | rfl | (go_simp; done) | (go_simp; omega)) rfl rfl cx11 hxc10.out ?_))
  refine (eqInt64SS_ok [.slice p_c13_0 (List.length R0) q_c13_0] [.slice p_c7_0 (List.length R0) q_c7_0] R0 _ (o13_0.rep) (o7_0.rep) hbr0).mono ?_
  rintro e w14 ⟨rfl, e14⟩
  replace e0 := e0.trans (e14)
  replace s := Nat.le_trans s (Ext.size (e14))
  replace c0 := c0.ext (e14)
  replace c1 := c1.ext (e14)
  replace o7_0 := o7_0.ext (e14)
  replace o8 := o8.ext (e14)
  replace cx9 := cx9.ext (e14)
  replace o10 := o10.ext (e14)
  replace cx11 := cx11.ext (e14)
  replace o12 := o12.ext (e14)
  replace o13_0 := o13_0.ext (e14)
  replace r0 := h0.ext e0
  replace r1 := h1.ext e0
  replace r2 := h2.ext e0
  clear e14
  go_wp2_with (first | ((with_reducible show wpList _ _ _ (Oper.mk _ (Op.load _ _) _ _ _ _ :: _) _ _); refine wl_ldAw (s := shModel) (cs := cs0) (by first | rfl | (go_simp; done) | (go_simp; omega)) rfl rfl c0 hl0.out ?_) | ((with_reducible show wpList _ _ _ (Oper.mk _ (Op.load _ _) _ _ _ _ :: _) _ _); refine wl_ldAw (s := shTensor) (cs := cs1) (by first | rfl | (go_simp; done) | (go_simp; omega)) rfl rfl c1 hl1.out ?_) | ((with_reducible show wpList _ _ _ (Oper.mk _ (Op.load _ _) _ _ _ _ :: _) _ _); refine wl_ldAw (s := shModel) (cs := c8) (by first | rfl | (go_simp; done) | (go_simp; omega)) rfl rfl cx9 hxc8.out ?_) | ((with_reducible show wpList _ _ _ (Oper.mk _ (Op.load _ _) _ _ _ _ :: _) _ _); refine wl_ldAw (s := shTensor) (cs := c10) (by first | rfl | (go_simp; done) | (go_simp; omega)) rfl rfl cx11 hxc10.out ?_))
  replace e0 := e0.trans ((Ext.drew _))
  replace s := Nat.le_trans s (Ext.size ((Ext.drew _)))
  replace c0 := c0.ext ((Ext.drew _))
  replace c1 := c1.ext ((Ext.drew _))
  replace o7_0 := o7_0.ext ((Ext.drew _))
  replace o8 := o8.ext ((Ext.drew _))
  replace cx9 := cx9.ext ((Ext.drew _))
  replace o10 := o10.ext ((Ext.drew _))
  replace cx11 := cx11.ext ((Ext.drew _))
  replace o12 := o12.ext ((Ext.drew _))
  replace o13_0 := o13_0.ext ((Ext.drew _))
  replace r0 := h0.ext e0
  replace r1 := h1.ext e0
  replace r2 := h2.ext e0
  obtain ⟨F15, hF15⟩ : ∃ F : Option Tmp → World → Value → Prop, F = fun d W u => (match d with | some 67 => ∃ cs', u = ofCs shModel cs' ∧ Rep W shModel cs' D0 | _ => True) := ⟨_, rfl⟩
  have HF15 := hid hF15
  clear hF15
  refine wp_region_xt 3 (F := F15) (by kernel_rfl) (by kernel_rfl) (by kernel_rfl) (by kernel_rfl) (by kernel_rfl) ?_
  intro wf hwf
  simp only [List.take_succ_cons, List.take_zero, List.drop_succ_cons, List.drop_zero]
  first | (refine x_ldA (s := shModel) (cs := cs0) rfl rfl rfl c0 hl0.out ?_) | (refine x_ldA (s := shTensor) (cs := cs1) rfl rfl rfl c1 hl1.out ?_) | (refine x_ldA (s := shModel) (cs := c8) rfl rfl rfl cx9 hxc8.out ?_) | (refine x_ldA (s := shTensor) (cs := c10) rfl rfl rfl cx11 hxc10.out ?_)
  simp only [Act.put, ev_tmp, List.setIfInBounds_toArray, List.set_cons_succ, List.set_cons_zero, List.getD_cons_succ, List.getD_cons_zero]
  first | (refine x_ldA (s := shModel) (cs := cs0) rfl rfl rfl c0 hl0.out ?_) | (refine x_ldA (s := shTensor) (cs := cs1) rfl rfl rfl c1 hl1.out ?_) | (refine x_ldA (s := shModel) (cs := c8) rfl rfl rfl cx9 hxc8.out ?_) | (refine x_ldA (s := shTensor) (cs := c10) rfl rfl rfl cx11 hxc10.out ?_)
  simp only [Act.put, ev_tmp, List.setIfInBounds_toArray, List.set_cons_succ, List.set_cons_zero, List.getD_cons_succ, List.getD_cons_zero]
  refine x_callf (f := 16) (args := #[ofCs shModel cs0]) rfl rfl Try.func16 rfl (by kernel_rfl) ?_ ?_ ?_; (focus (simp [Act.eval]; done)); (focus (intro w1 hw1; exact ((toModel_ok cs0 D0 w1 (r0.ext hw1) hb0).mono fun e w3 ⟨cs3, bs3, g1, g2, _, _, g3⟩ => ⟨_, g1, g3, by rw [HF15.out]; exact ⟨cs3, rfl, g2.rep⟩⟩))); rintro u w3 e3 e4 hu; simp only [HF15.out] at hu; obtain ⟨cz16, rfl, rz16⟩ := hu; replace rz16 := rz16.ext e4
  simp only [Act.put, ev_tmp, List.setIfInBounds_toArray, List.set_cons_succ, List.set_cons_zero, List.getD_cons_succ, List.getD_cons_zero]
  refine x_nil ?_
  replace e0 := e0.trans (hwf)
  replace s := Nat.le_trans s (Ext.size (hwf))
  replace c0 := c0.ext (hwf)
  replace c1 := c1.ext (hwf)
  replace o7_0 := o7_0.ext (hwf)
  replace o8 := o8.ext (hwf)
  replace cx9 := cx9.ext (hwf)
  replace o10 := o10.ext (hwf)
  replace cx11 := cx11.ext (hwf)
  replace o12 := o12.ext (hwf)
  replace o13_0 := o13_0.ext (hwf)
  replace r0 := h0.ext e0
  replace r1 := h1.ext e0
  replace r2 := h2.ext e0
  clear hwf
  go_wp2_with fail
  refine (eqModel_ok c8 cz16 D0 _ (o8.rep) (rz16) hb0).mono ?_
  rintro e w17 ⟨rfl, e17⟩
  replace e0 := e0.trans (e17)
  replace s := Nat.le_trans s (Ext.size (e17))
  replace c0 := c0.ext (e17)
  replace c1 := c1.ext (e17)
  replace o7_0 := o7_0.ext (e17)
  replace o8 := o8.ext (e17)
  replace cx9 := cx9.ext (e17)
  replace o10 := o10.ext (e17)
  replace cx11 := cx11.ext (e17)
  replace o12 := o12.ext (e17)
  replace o13_0 := o13_0.ext (e17)
  replace rz16 := rz16.ext (e17)
  replace r0 := h0.ext e0
  replace r1 := h1.ext e0
  replace r2 := h2.ext e0
  clear e17
  go_wp2_with (first | ((with_reducible show wpList _ _ _ (Oper.mk _ (Op.load _ _) _ _ _ _ :: _) _ _); refine wl_ldAw (s := shModel) (cs := cs0) (by first | rfl | (go_simp; done) | (go_simp; omega)) rfl rfl c0 hl0.out ?_) | ((with_reducible show wpList _ _ _ (Oper.mk _ (Op.load _ _) _ _ _ _ :: _) _ _); refine wl_ldAw (s := shTensor) (cs := cs1) (by first | rfl | (go_simp; done) | (go_simp; omega)) rfl rfl c1 hl1.out ?_) | ((with_reducible show wpList _ _ _ (Oper.mk _ (Op.load _ _) _ _ _ _ :: _) _ _); refine wl_ldAw (s := shModel) (cs := c8) (by first | rfl | (go_simp; done) | (go_simp; omega)) rfl rfl cx9 hxc8.out ?_) | ((with_reducible show wpList _ _ _ (Oper.mk _ (Op.load _ _) _ _ _ _ :: _) _ _); refine wl_ldAw (s := shTensor) (cs := c10) (by first | rfl | (go_simp; done) | (go_simp; omega)) rfl rfl cx11 hxc10.out ?_))
  replace e0 := e0.trans ((Ext.drew _))
  replace s := Nat.le_trans s (Ext.size ((Ext.drew _)))
  replace c0 := c0.ext ((Ext.drew _))
  replace c1 := c1.ext ((Ext.drew _))
  replace o7_0 := o7_0.ext ((Ext.drew _))
  replace o8 := o8.ext ((Ext.drew _))
  replace cx9 := cx9.ext ((Ext.drew _))
  replace o10 := o10.ext ((Ext.drew _))
  replace cx11 := cx11.ext ((Ext.drew _))
  replace o12 := o12.ext ((Ext.drew _))
  replace o13_0 := o13_0.ext ((Ext.drew _))
  replace rz16 := rz16.ext ((Ext.drew _))
  replace r0 := h0.ext e0
  replace r1 := h1.ext e0
  replace r2 := h2.ext e0
  obtain ⟨F18, hF18⟩ : ∃ F : Option Tmp → World → Value → Prop, F = fun d W u => (match d with | some 72 => ∃ cs', u = ofCs shTensor cs' ∧ Rep W shTensor cs' D1 | _ => True) := ⟨_, rfl⟩
  have HF18 := hid hF18
  clear hF18
  refine wp_region_xt 3 (F := F18) (by kernel_rfl) (by kernel_rfl) (by kernel_rfl) (by kernel_rfl) (by kernel_rfl) ?_
  intro wf hwf
  simp only [List.take_succ_cons, List.take_zero, List.drop_succ_cons, List.drop_zero]
  first | (refine x_ldA (s := shModel) (cs := cs0) rfl rfl rfl c0 hl0.out ?_) | (refine x_ldA (s := shTensor) (cs := cs1) rfl rfl rfl c1 hl1.out ?_) | (refine x_ldA (s := shModel) (cs := c8) rfl rfl rfl cx9 hxc8.out ?_) | (refine x_ldA (s := shTensor) (cs := c10) rfl rfl rfl cx11 hxc10.out ?_)
  simp only [Act.put, ev_tmp, List.setIfInBounds_toArray, List.set_cons_succ, List.set_cons_zero, List.getD_cons_succ, List.getD_cons_zero]
  first | (refine x_ldA (s := shModel) (cs := cs0) rfl rfl rfl c0 hl0.out ?_) | (refine x_ldA (s := shTensor) (cs := cs1) rfl rfl rfl c1 hl1.out ?_) | (refine x_ldA (s := shModel) (cs := c8) rfl rfl rfl cx9 hxc8.out ?_) | (refine x_ldA (s := shTensor) (cs := c10) rfl rfl rfl cx11 hxc10.out ?_)
  simp only [Act.put, ev_tmp, List.setIfInBounds_toArray, List.set_cons_succ, List.set_cons_zero, List.getD_cons_succ, List.getD_cons_zero]
  refine x_callf (f := 28) (args := #[ofCs shTensor cs1]) rfl rfl Try.func28 rfl (by kernel_rfl) ?_ ?_ ?_; (focus (simp [Act.eval]; done)); (focus (intro w1 hw1; exact ((toTensor_ok cs1 D1 w1 (r1.ext hw1) hb1).mono fun e w3 ⟨cs3, bs3, g1, g2, _, _, g3⟩ => ⟨_, g1, g3, by rw [HF18.out]; exact ⟨cs3, rfl, g2.rep⟩⟩))); rintro u w3 e3 e4 hu; simp only [HF18.out] at hu; obtain ⟨cz19, rfl, rz19⟩ := hu; replace rz19 := rz19.ext e4
  simp only [Act.put, ev_tmp, List.setIfInBounds_toArray, List.set_cons_succ, List.set_cons_zero, List.getD_cons_succ, List.getD_cons_zero]
  refine x_nil ?_
  replace e0 := e0.trans (hwf)
  replace s := Nat.le_trans s (Ext.size (hwf))
  replace c0 := c0.ext (hwf)
  replace c1 := c1.ext (hwf)
  replace o7_0 := o7_0.ext (hwf)
  replace o8 := o8.ext (hwf)
  replace cx9 := cx9.ext (hwf)
  replace o10 := o10.ext (hwf)
  replace cx11 := cx11.ext (hwf)
  replace o12 := o12.ext (hwf)
  replace o13_0 := o13_0.ext (hwf)
  replace rz16 := rz16.ext (hwf)
  replace r0 := h0.ext e0
  replace r1 := h1.ext e0
  replace r2 := h2.ext e0
  clear hwf
  go_wp2_with fail
  refine (eqTensor_ok c10 cz19 D1 _ (o10.rep) (rz19) hb1).mono ?_
  rintro e w20 ⟨rfl, e20⟩
  replace e0 := e0.trans (e20)
  replace s := Nat.le_trans s (Ext.size (e20))
  replace c0 := c0.ext (e20)
  replace c1 := c1.ext (e20)
  replace o7_0 := o7_0.ext (e20)
  replace o8 := o8.ext (e20)
  replace cx9 := cx9.ext (e20)
  replace o10 := o10.ext (e20)
  replace cx11 := cx11.ext (e20)
  replace o12 := o12.ext (e20)
  replace o13_0 := o13_0.ext (e20)
  replace rz16 := rz16.ext (e20)
  replace rz19 := rz19.ext (e20)
  replace r0 := h0.ext e0
  replace r1 := h1.ext e0
  replace r2 := h2.ext e0
  clear e20
  go_wp2_with (first | ((with_reducible show wpList _ _ _ (Oper.mk _ (Op.load _ _) _ _ _ _ :: _) _ _); refine wl_ldAw (s := shModel) (cs := cs0) (by first | rfl | (go_simp; done) | (go_simp; omega)) rfl rfl c0 hl0.out ?_) | ((with_reducible show wpList _ _ _ (Oper.mk _ (Op.load _ _) _ _ _ _ :: _) _ _); refine wl_ldAw (s := shTensor) (cs := cs1) (by first | rfl | (go_simp; done) | (go_simp; omega)) rfl rfl c1 hl1.out ?_) | ((with_reducible show wpList _ _ _ (Oper.mk _ (Op.load _ _) _ _ _ _ :: _) _ _); refine wl_ldAw (s := shModel) (cs := c8) (by first | rfl | (go_simp; done) | (go_simp; omega)) rfl rfl cx9 hxc8.out ?_) | ((with_reducible show wpList _ _ _ (Oper.mk _ (Op.load _ _) _ _ _ _ :: _) _ _); refine wl_ldAw (s := shTensor) (cs := c10) (by first | rfl | (go_simp; done) | (go_simp; omega)) rfl rfl cx11 hxc10.out ?_))
  refine (toInt64S_ok [.slice p2 (List.length D2) q2] D2 _ r2 hb2).mono ?_
  rintro e w21 ⟨c21, b21, rfl, o21, nd21, lo21, e21⟩
  have m21 := s
  have sz21 := Ext.size e21
  have lt21 := Own.lt o21
  replace e0 := e0.trans (e21)
  replace s := Nat.le_trans s (Ext.size (e21))
  replace c0 := c0.ext (e21)
  replace c1 := c1.ext (e21)
  replace o7_0 := o7_0.ext (e21)
  replace o8 := o8.ext (e21)
  replace cx9 := cx9.ext (e21)
  replace o10 := o10.ext (e21)
  replace cx11 := cx11.ext (e21)
  replace o12 := o12.ext (e21)
  replace o13_0 := o13_0.ext (e21)
  replace rz16 := rz16.ext (e21)
  replace rz19 := rz19.ext (e21)
  replace r0 := h0.ext e0
  replace r1 := h1.ext e0
  replace r2 := h2.ext e0
  clear e21
  obtain ⟨N21, hN21⟩ : ∃ N, N = w21.heap.size := ⟨_, rfl⟩
  rw [← hN21] at sz21 lt21
  have s := Nat.le_of_eq hN21
  obtain ⟨p_c21, q_c21, rfl, hm_c21⟩ := rep_val o21.rep
  simp only [ofCs, Sh.agg, List.headD_cons, Bool.false_eq_true, if_false]
  go_wp2_with (first | ((with_reducible show wpList _ _ _ (Oper.mk _ (Op.load _ _) _ _ _ _ :: _) _ _); refine wl_ldAw (s := shModel) (cs := cs0) (by first | rfl | (go_simp; done) | (go_simp; omega)) rfl rfl c0 hl0.out ?_) | ((with_reducible show wpList _ _ _ (Oper.mk _ (Op.load _ _) _ _ _ _ :: _) _ _); refine wl_ldAw (s := shTensor) (cs := cs1) (by first | rfl | (go_simp; done) | (go_simp; omega)) rfl rfl c1 hl1.out ?_) | ((with_reducible show wpList _ _ _ (Oper.mk _ (Op.load _ _) _ _ _ _ :: _) _ _); refine wl_ldAw (s := shModel) (cs := c8) (by first | rfl | (go_simp; done) | (go_simp; omega)) rfl rfl cx9 hxc8.out ?_) | ((with_reducible show wpList _ _ _ (Oper.mk _ (Op.load _ _) _ _ _ _ :: _) _ _); refine wl_ldAw (s := shTensor) (cs := c10) (by first | rfl | (go_simp; done) | (go_simp; omega)) rfl rfl cx11 hxc10.out ?_))
  refine (eqInt64S_ok [.slice p_c12 (List.length D2) q_c12] [.slice p_c21 (List.length D2) q_c21] D2 _ (o12.rep) (o21.rep) hb2).mono ?_
  rintro e w22 ⟨rfl, e22⟩
  replace e0 := e0.trans (e22)
  replace s := Nat.le_trans s (Ext.size (e22))
  replace c0 := c0.ext (e22)
  replace c1 := c1.ext (e22)
  replace o7_0 := o7_0.ext (e22)
  replace o8 := o8.ext (e22)
  replace cx9 := cx9.ext (e22)
  replace o10 := o10.ext (e22)
  replace cx11 := cx11.ext (e22)
  replace o12 := o12.ext (e22)
  replace o13_0 := o13_0.ext (e22)
  replace rz16 := rz16.ext (e22)
  replace rz19 := rz19.ext (e22)
  replace o21 := o21.ext (e22)
  replace r0 := h0.ext e0
  replace r1 := h1.ext e0
  replace r2 := h2.ext e0
  clear e22
  go_wp2_with (first | ((with_reducible show wpList _ _ _ (Oper.mk _ (Op.load _ _) _ _ _ _ :: _) _ _); refine wl_ldAw (s := shModel) (cs := cs0) (by first | rfl | (go_simp; done) | (go_simp; omega)) rfl rfl c0 hl0.out ?_) | ((with_reducible show wpList _ _ _ (Oper.mk _ (Op.load _ _) _ _ _ _ :: _) _ _); refine wl_ldAw (s := shTensor) (cs := cs1) (by first | rfl | (go_simp; done) | (go_simp; omega)) rfl rfl c1 hl1.out ?_) | ((with_reducible show wpList _ _ _ (Oper.mk _ (Op.load _ _) _ _ _ _ :: _) _ _); refine wl_ldAw (s := shModel) (cs := c8) (by first | rfl | (go_simp; done) | (go_simp; omega)) rfl rfl cx9 hxc8.out ?_) | ((with_reducible show wpList _ _ _ (Oper.mk _ (Op.load _ _) _ _ _ _ :: _) _ _); refine wl_ldAw (s := shTensor) (cs := c10) (by first | rfl | (go_simp; done) | (go_simp; omega)) rfl rfl cx11 hxc10.out ?_))
  have mb23 := mkV_bd shModel (by decide) D0 1
  refine (markModel_ok c8 D0 b8 1 _ o8 nd8 (by omega) (by omega)).mono ?_
  rintro e w23 ⟨rfl, o23m, ch23⟩
  replace e0 := e0.chg ch23 fun b hb => by have := lo8 b hb; omega
  replace s := Nat.le_trans s (Chg.size ch23)
  replace c0 := Cs.chgB c0 ch23 (Cs.blkLt c0 (by rw [hl0.out]; decide)) (fun h => by have := lo8 _ h; have := lt8 _ h; omega)
  replace c1 := Cs.chgB c1 ch23 (Cs.blkLt c1 (by rw [hl1.out]; decide)) (fun h => by have := lo8 _ h; have := lt8 _ h; omega)
  replace o7_0 := o7_0.chg ch23 (fun b hb h => by have := lo7_0 b hb; have := lt7_0 b hb; have := lo8 b h; have := lt8 b h; omega)
  replace cx9 := Cs.chgB cx9 ch23 (Cs.blkLt cx9 (by rw [hxc8.out]; decide)) (fun h => by have := lo8 _ h; have := lt8 _ h; omega)
  replace o10 := o10.chg ch23 (fun b hb h => by have := lo10 b hb; have := lt10 b hb; have := lo8 b h; have := lt8 b h; omega)
  replace cx11 := Cs.chgB cx11 ch23 (Cs.blkLt cx11 (by rw [hxc10.out]; decide)) (fun h => by have := lo8 _ h; have := lt8 _ h; omega)
  replace o12 := o12.chg ch23 (fun b hb h => by have := lo12 b hb; have := lt12 b hb; have := lo8 b h; have := lt8 b h; omega)
  replace o13_0 := o13_0.chg ch23 (fun b hb h => by have := lo13_0 b hb; have := lt13_0 b hb; have := lo8 b h; have := lt8 b h; omega)
  clear rz16
  clear rz19
  replace o21 := o21.chg ch23 (fun b hb h => by have := lo21 b hb; have := lt21 b hb; have := lo8 b h; have := lt8 b h; omega)
  replace r0 := h0.ext e0
  replace r1 := h1.ext e0
  replace r2 := h2.ext e0
  clear o8 ch23
  obtain ⟨k23, hk23⟩ : ∃ k, k = (mkV shModel D0 1).2 := ⟨_, rfl⟩
  rw [← hk23] at mb23 ⊢
  have HK23 := hid hk23
  clear hk23
  go_wp2_with (first | ((with_reducible show wpList _ _ _ (Oper.mk _ (Op.load _ _) _ _ _ _ :: _) _ _); refine wl_ldAw (s := shModel) (cs := cs0) (by first | rfl | (go_simp; done) | (go_simp; omega)) rfl rfl c0 hl0.out ?_) | ((with_reducible show wpList _ _ _ (Oper.mk _ (Op.load _ _) _ _ _ _ :: _) _ _); refine wl_ldAw (s := shTensor) (cs := cs1) (by first | rfl | (go_simp; done) | (go_simp; omega)) rfl rfl c1 hl1.out ?_) | ((with_reducible show wpList _ _ _ (Oper.mk _ (Op.load _ _) _ _ _ _ :: _) _ _); refine wl_ldAw (s := shModel) (cs := c8) (by first | rfl | (go_simp; done) | (go_simp; omega)) rfl rfl cx9 hxc8.out ?_) | ((with_reducible show wpList _ _ _ (Oper.mk _ (Op.load _ _) _ _ _ _ :: _) _ _); refine wl_ldAw (s := shTensor) (cs := c10) (by first | rfl | (go_simp; done) | (go_simp; omega)) rfl rfl cx11 hxc10.out ?_))
  have mb24 := mkV_bd shTensor (by decide) D1 k23
  refine (markTensor_ok c10 D1 b10 k23 _ o10 nd10 (by omega) (by omega)).mono ?_
  rintro e w24 ⟨rfl, o24m, ch24⟩
  replace e0 := e0.chg ch24 fun b hb => by have := lo10 b hb; omega
  replace s := Nat.le_trans s (Chg.size ch24)
  replace c0 := Cs.chgB c0 ch24 (Cs.blkLt c0 (by rw [hl0.out]; decide)) (fun h => by have := lo10 _ h; have := lt10 _ h; omega)
  replace c1 := Cs.chgB c1 ch24 (Cs.blkLt c1 (by rw [hl1.out]; decide)) (fun h => by have := lo10 _ h; have := lt10 _ h; omega)
  replace o7_0 := o7_0.chg ch24 (fun b hb h => by have := lo7_0 b hb; have := lt7_0 b hb; have := lo10 b h; have := lt10 b h; omega)
  replace cx9 := Cs.chgB cx9 ch24 (Cs.blkLt cx9 (by rw [hxc8.out]; decide)) (fun h => by have := lo10 _ h; have := lt10 _ h; omega)
  replace cx11 := Cs.chgB cx11 ch24 (Cs.blkLt cx11 (by rw [hxc10.out]; decide)) (fun h => by have := lo10 _ h; have := lt10 _ h; omega)
  replace o12 := o12.chg ch24 (fun b hb h => by have := lo12 b hb; have := lt12 b hb; have := lo10 b h; have := lt10 b h; omega)
  replace o13_0 := o13_0.chg ch24 (fun b hb h => by have := lo13_0 b hb; have := lt13_0 b hb; have := lo10 b h; have := lt10 b h; omega)
  replace o21 := o21.chg ch24 (fun b hb h => by have := lo21 b hb; have := lt21 b hb; have := lo10 b h; have := lt10 b h; omega)
  replace o23m := o23m.chg ch24 (fun b hb h => by have := lo8 b hb; have := lt8 b hb; have := lo10 b h; have := lt10 b h; omega)
  replace r0 := h0.ext e0
  replace r1 := h1.ext e0
  replace r2 := h2.ext e0
  clear o10 ch24
  obtain ⟨k24, hk24⟩ : ∃ k, k = (mkV shTensor D1 k23).2 := ⟨_, rfl⟩
  rw [← hk24] at mb24 ⊢
  have HK24 := hid hk24
  clear hk24
  go_wp2_with (first | ((with_reducible show wpList _ _ _ (Oper.mk _ (Op.load _ _) _ _ _ _ :: _) _ _); refine wl_ldAw (s := shModel) (cs := cs0) (by first | rfl | (go_simp; done) | (go_simp; omega)) rfl rfl c0 hl0.out ?_) | ((with_reducible show wpList _ _ _ (Oper.mk _ (Op.load _ _) _ _ _ _ :: _) _ _); refine wl_ldAw (s := shTensor) (cs := cs1) (by first | rfl | (go_simp; done) | (go_simp; omega)) rfl rfl c1 hl1.out ?_) | ((with_reducible show wpList _ _ _ (Oper.mk _ (Op.load _ _) _ _ _ _ :: _) _ _); refine wl_ldAw (s := shModel) (cs := c8) (by first | rfl | (go_simp; done) | (go_simp; omega)) rfl rfl cx9 hxc8.out ?_) | ((with_reducible show wpList _ _ _ (Oper.mk _ (Op.load _ _) _ _ _ _ :: _) _ _); refine wl_ldAw (s := shTensor) (cs := c10) (by first | rfl | (go_simp; done) | (go_simp; omega)) rfl rfl cx11 hxc10.out ?_))
  have mb25 := mkV_bd (.sl .int) (by decide) D2 k24
  refine (markInt64S_ok [.slice p_c12 (List.length D2) q_c12] D2 b12 k24 _ o12 nd12 (by omega) (by omega)).mono ?_
  rintro e w25 ⟨rfl, o25m, ch25⟩
  replace e0 := e0.chg ch25 fun b hb => by have := lo12 b hb; omega
  replace s := Nat.le_trans s (Chg.size ch25)
  replace c0 := Cs.chgB c0 ch25 (Cs.blkLt c0 (by rw [hl0.out]; decide)) (fun h => by have := lo12 _ h; have := lt12 _ h; omega)
  replace c1 := Cs.chgB c1 ch25 (Cs.blkLt c1 (by rw [hl1.out]; decide)) (fun h => by have := lo12 _ h; have := lt12 _ h; omega)
  replace o7_0 := o7_0.chg ch25 (fun b hb h => by have := lo7_0 b hb; have := lt7_0 b hb; have := lo12 b h; have := lt12 b h; omega)
  replace cx9 := Cs.chgB cx9 ch25 (Cs.blkLt cx9 (by rw [hxc8.out]; decide)) (fun h => by have := lo12 _ h; have := lt12 _ h; omega)
  replace cx11 := Cs.chgB cx11 ch25 (Cs.blkLt cx11 (by rw [hxc10.out]; decide)) (fun h => by have := lo12 _ h; have := lt12 _ h; omega)
  replace o13_0 := o13_0.chg ch25 (fun b hb h => by have := lo13_0 b hb; have := lt13_0 b hb; have := lo12 b h; have := lt12 b h; omega)
  replace o21 := o21.chg ch25 (fun b hb h => by have := lo21 b hb; have := lt21 b hb; have := lo12 b h; have := lt12 b h; omega)
  replace o23m := o23m.chg ch25 (fun b hb h => by have := lo8 b hb; have := lt8 b hb; have := lo12 b h; have := lt12 b h; omega)
  replace o24m := o24m.chg ch25 (fun b hb h => by have := lo10 b hb; have := lt10 b hb; have := lo12 b h; have := lt12 b h; omega)
  replace r0 := h0.ext e0
  replace r1 := h1.ext e0
  replace r2 := h2.ext e0
  clear o12 ch25
  obtain ⟨k25, hk25⟩ : ∃ k, k = (mkV (.sl .int) D2 k24).2 := ⟨_, rfl⟩
  rw [← hk25] at mb25 ⊢
  have HK25 := hid hk25
  clear hk25
  go_wp2_with (first | ((with_reducible show wpList _ _ _ (Oper.mk _ (Op.load _ _) _ _ _ _ :: _) _ _); refine wl_ldAw (s := shModel) (cs := cs0) (by first | rfl | (go_simp; done) | (go_simp; omega)) rfl rfl c0 hl0.out ?_) | ((with_reducible show wpList _ _ _ (Oper.mk _ (Op.load _ _) _ _ _ _ :: _) _ _); refine wl_ldAw (s := shTensor) (cs := cs1) (by first | rfl | (go_simp; done) | (go_simp; omega)) rfl rfl c1 hl1.out ?_) | ((with_reducible show wpList _ _ _ (Oper.mk _ (Op.load _ _) _ _ _ _ :: _) _ _); refine wl_ldAw (s := shModel) (cs := c8) (by first | rfl | (go_simp; done) | (go_simp; omega)) rfl rfl cx9 hxc8.out ?_) | ((with_reducible show wpList _ _ _ (Oper.mk _ (Op.load _ _) _ _ _ _ :: _) _ _); refine wl_ldAw (s := shTensor) (cs := c10) (by first | rfl | (go_simp; done) | (go_simp; omega)) rfl rfl cx11 hxc10.out ?_))
  refine (eqInt64SS_ok [.slice p_c13_0 (List.length R0) q_c13_0] [.slice p_c7_0 (List.length R0) q_c7_0] R0 _ (o13_0.rep) (o7_0.rep) hbr0).mono ?_
  rintro e w26 ⟨rfl, e26⟩
  replace e0 := e0.trans (e26)
  replace s := Nat.le_trans s (Ext.size (e26))
  replace c0 := c0.ext (e26)
  replace c1 := c1.ext (e26)
  replace o7_0 := o7_0.ext (e26)
  replace cx9 := cx9.ext (e26)
  replace cx11 := cx11.ext (e26)
  replace o13_0 := o13_0.ext (e26)
  replace o21 := o21.ext (e26)
  replace o23m := o23m.ext (e26)
  replace o24m := o24m.ext (e26)
  replace o25m := o25m.ext (e26)
  replace r0 := h0.ext e0
  replace r1 := h1.ext e0
  replace r2 := h2.ext e0
  clear e26
  go_wp2_with (first | ((with_reducible show wpList _ _ _ (Oper.mk _ (Op.load _ _) _ _ _ _ :: _) _ _); refine wl_ldAw (s := shModel) (cs := cs0) (by first | rfl | (go_simp; done) | (go_simp; omega)) rfl rfl c0 hl0.out ?_) | ((with_reducible show wpList _ _ _ (Oper.mk _ (Op.load _ _) _ _ _ _ :: _) _ _); refine wl_ldAw (s := shTensor) (cs := cs1) (by first | rfl | (go_simp; done) | (go_simp; omega)) rfl rfl c1 hl1.out ?_) | ((with_reducible show wpList _ _ _ (Oper.mk _ (Op.load _ _) _ _ _ _ :: _) _ _); refine wl_ldAw (s := shModel) (cs := c8) (by first | rfl | (go_simp; done) | (go_simp; omega)) rfl rfl cx9 hxc8.out ?_) | ((with_reducible show wpList _ _ _ (Oper.mk _ (Op.load _ _) _ _ _ _ :: _) _ _); refine wl_ldAw (s := shTensor) (cs := c10) (by first | rfl | (go_simp; done) | (go_simp; omega)) rfl rfl cx11 hxc10.out ?_))
  have mb27 := mkV_bd shInt64SS (by decide) R0 1
  refine (markInt64SS_ok [.slice p_c13_0 (List.length R0) q_c13_0] R0 b13_0 1 _ o13_0 nd13_0 (by omega) (by omega)).mono ?_
  rintro e w27 ⟨rfl, o27m, ch27⟩
  replace e0 := e0.chg ch27 fun b hb => by have := lo13_0 b hb; omega
  replace s := Nat.le_trans s (Chg.size ch27)
  replace c0 := Cs.chgB c0 ch27 (Cs.blkLt c0 (by rw [hl0.out]; decide)) (fun h => by have := lo13_0 _ h; have := lt13_0 _ h; omega)
  replace c1 := Cs.chgB c1 ch27 (Cs.blkLt c1 (by rw [hl1.out]; decide)) (fun h => by have := lo13_0 _ h; have := lt13_0 _ h; omega)
  replace o7_0 := o7_0.chg ch27 (fun b hb h => by have := lo7_0 b hb; have := lt7_0 b hb; have := lo13_0 b h; have := lt13_0 b h; omega)
  replace cx9 := Cs.chgB cx9 ch27 (Cs.blkLt cx9 (by rw [hxc8.out]; decide)) (fun h => by have := lo13_0 _ h; have := lt13_0 _ h; omega)
  replace cx11 := Cs.chgB cx11 ch27 (Cs.blkLt cx11 (by rw [hxc10.out]; decide)) (fun h => by have := lo13_0 _ h; have := lt13_0 _ h; omega)
  replace o21 := o21.chg ch27 (fun b hb h => by have := lo21 b hb; have := lt21 b hb; have := lo13_0 b h; have := lt13_0 b h; omega)
  replace o23m := o23m.chg ch27 (fun b hb h => by have := lo8 b hb; have := lt8 b hb; have := lo13_0 b h; have := lt13_0 b h; omega)
  replace o24m := o24m.chg ch27 (fun b hb h => by have := lo10 b hb; have := lt10 b hb; have := lo13_0 b h; have := lt13_0 b h; omega)
  replace o25m := o25m.chg ch27 (fun b hb h => by have := lo12 b hb; have := lt12 b hb; have := lo13_0 b h; have := lt13_0 b h; omega)
  replace r0 := h0.ext e0
  replace r1 := h1.ext e0
  replace r2 := h2.ext e0
  clear o13_0 ch27
  obtain ⟨k27, hk27⟩ : ∃ k, k = (mkV shInt64SS R0 1).2 := ⟨_, rfl⟩
  rw [← hk27] at mb27 ⊢
  have HK27 := hid hk27
  clear hk27
  go_wp2_with (first | ((with_reducible show wpList _ _ _ (Oper.mk _ (Op.load _ _) _ _ _ _ :: _) _ _); refine wl_ldAw (s := shModel) (cs := cs0) (by first | rfl | (go_simp; done) | (go_simp; omega)) rfl rfl c0 hl0.out ?_) | ((with_reducible show wpList _ _ _ (Oper.mk _ (Op.load _ _) _ _ _ _ :: _) _ _); refine wl_ldAw (s := shTensor) (cs := cs1) (by first | rfl | (go_simp; done) | (go_simp; omega)) rfl rfl c1 hl1.out ?_) | ((with_reducible show wpList _ _ _ (Oper.mk _ (Op.load _ _) _ _ _ _ :: _) _ _); refine wl_ldAw (s := shModel) (cs := c8) (by first | rfl | (go_simp; done) | (go_simp; omega)) rfl rfl cx9 hxc8.out ?_) | ((with_reducible show wpList _ _ _ (Oper.mk _ (Op.load _ _) _ _ _ _ :: _) _ _); refine wl_ldAw (s := shTensor) (cs := c10) (by first | rfl | (go_simp; done) | (go_simp; omega)) rfl rfl cx11 hxc10.out ?_))
  refine (heldInt64SS_ok [.slice p_c13_0 (List.length R0) q_c13_0] R0 1 _ o27m.rep (by omega) (by omega)).mono ?_
  rintro e w28 ⟨rfl, e28⟩
  replace e0 := e0.trans (e28)
  replace s := Nat.le_trans s (Ext.size (e28))
  replace c0 := c0.ext (e28)
  replace c1 := c1.ext (e28)
  replace o7_0 := o7_0.ext (e28)
  replace cx9 := cx9.ext (e28)
  replace cx11 := cx11.ext (e28)
  replace o21 := o21.ext (e28)
  replace o23m := o23m.ext (e28)
  replace o24m := o24m.ext (e28)
  replace o25m := o25m.ext (e28)
  replace o27m := o27m.ext (e28)
  replace r0 := h0.ext e0
  replace r1 := h1.ext e0
  replace r2 := h2.ext e0
  clear e28
  rw [← HK27.out]
  go_wp2_with (first | ((with_reducible show wpList _ _ _ (Oper.mk _ (Op.load _ _) _ _ _ _ :: _) _ _); refine wl_ldAw (s := shModel) (cs := cs0) (by first | rfl | (go_simp; done) | (go_simp; omega)) rfl rfl c0 hl0.out ?_) | ((with_reducible show wpList _ _ _ (Oper.mk _ (Op.load _ _) _ _ _ _ :: _) _ _); refine wl_ldAw (s := shTensor) (cs := cs1) (by first | rfl | (go_simp; done) | (go_simp; omega)) rfl rfl c1 hl1.out ?_) | ((with_reducible show wpList _ _ _ (Oper.mk _ (Op.load _ _) _ _ _ _ :: _) _ _); refine wl_ldAw (s := shModel) (cs := c8) (by first | rfl | (go_simp; done) | (go_simp; omega)) rfl rfl cx9 hxc8.out ?_) | ((with_reducible show wpList _ _ _ (Oper.mk _ (Op.load _ _) _ _ _ _ :: _) _ _); refine wl_ldAw (s := shTensor) (cs := c10) (by first | rfl | (go_simp; done) | (go_simp; omega)) rfl rfl cx11 hxc10.out ?_))
  replace e0 := e0.trans ((Ext.drew _))
  replace s := Nat.le_trans s (Ext.size ((Ext.drew _)))
  replace c0 := c0.ext ((Ext.drew _))
  replace c1 := c1.ext ((Ext.drew _))
  replace o7_0 := o7_0.ext ((Ext.drew _))
  replace cx9 := cx9.ext ((Ext.drew _))
  replace cx11 := cx11.ext ((Ext.drew _))
  replace o21 := o21.ext ((Ext.drew _))
  replace o23m := o23m.ext ((Ext.drew _))
  replace o24m := o24m.ext ((Ext.drew _))
  replace o25m := o25m.ext ((Ext.drew _))
  replace o27m := o27m.ext ((Ext.drew _))
  replace r0 := h0.ext e0
  replace r1 := h1.ext e0
  replace r2 := h2.ext e0
  obtain ⟨Nd29, hNd29, sNd29⟩ := ext_size e0
  rw [← hNd29] at s
  have md29 := s
  have s := sNd29
  obtain ⟨F29, hF29⟩ : ∃ F : Option Tmp → World → Value → Prop, F = fun d W u => (match d with | some 115 => ∃ cs', u = ofCs shModel cs' ∧ Rep W shModel cs' D0 | some 117 => ∃ cs', u = ofCs shTensor cs' ∧ Rep W shTensor cs' D1 | some 119 => ∃ cs', u = ofCs (.sl .int) cs' ∧ Rep W (.sl .int) cs' D2 | some 120 => ∃ cs' bs', u = .tuple #[ofCs shInt64SS cs', .bool R1] ∧ Own W shInt64SS cs' R0 bs' ∧ bs'.Nodup ∧ (∀ b ∈ bs', Nd29 ≤ b) | _ => True) := ⟨_, rfl⟩
  have HF29 := hid hF29
  clear hF29
  refine wp_region_xall (F := F29) (by kernel_rfl) (by kernel_rfl) (by kernel_rfl) ?_
  intro wf hwf
  first | (refine x_ldA (s := shModel) (cs := cs0) rfl rfl rfl c0 hl0.out ?_) | (refine x_ldA (s := shTensor) (cs := cs1) rfl rfl rfl c1 hl1.out ?_) | (refine x_ldA (s := shModel) (cs := c8) rfl rfl rfl cx9 hxc8.out ?_) | (refine x_ldA (s := shTensor) (cs := c10) rfl rfl rfl cx11 hxc10.out ?_)
  simp only [Act.put, ev_tmp, List.setIfInBounds_toArray, List.set_cons_succ, List.set_cons_zero, List.getD_cons_succ, List.getD_cons_zero]
  refine x_callf (f := 16) (args := #[ofCs shModel cs0]) rfl rfl Try.func16 rfl (by kernel_rfl) ?_ ?_ ?_; (focus (simp [Act.eval]; done)); (focus (intro w1 hw1; exact ((toModel_ok cs0 D0 w1 (r0.ext hw1) hb0).mono fun e w3 ⟨cs3, bs3, g1, g2, _, _, g3⟩ => ⟨_, g1, g3, by rw [HF29.out]; exact ⟨cs3, rfl, g2.rep⟩⟩))); rintro u w3 e3 e4 hu; simp only [HF29.out] at hu; obtain ⟨cz30, rfl, rz30⟩ := hu; clear rz30
  simp only [Act.put, ev_tmp, List.setIfInBounds_toArray, List.set_cons_succ, List.set_cons_zero, List.getD_cons_succ, List.getD_cons_zero]
  first | (refine x_ldA (s := shModel) (cs := cs0) rfl rfl rfl c0 hl0.out ?_) | (refine x_ldA (s := shTensor) (cs := cs1) rfl rfl rfl c1 hl1.out ?_) | (refine x_ldA (s := shModel) (cs := c8) rfl rfl rfl cx9 hxc8.out ?_) | (refine x_ldA (s := shTensor) (cs := c10) rfl rfl rfl cx11 hxc10.out ?_)
  simp only [Act.put, ev_tmp, List.setIfInBounds_toArray, List.set_cons_succ, List.set_cons_zero, List.getD_cons_succ, List.getD_cons_zero]
  refine x_callf (f := 28) (args := #[ofCs shTensor cs1]) rfl rfl Try.func28 rfl (by kernel_rfl) ?_ ?_ ?_; (focus (simp [Act.eval]; done)); (focus (intro w1 hw1; exact ((toTensor_ok cs1 D1 w1 (r1.ext hw1) hb1).mono fun e w3 ⟨cs3, bs3, g1, g2, _, _, g3⟩ => ⟨_, g1, g3, by rw [HF29.out]; exact ⟨cs3, rfl, g2.rep⟩⟩))); rintro u w3 e3 e4 hu; simp only [HF29.out] at hu; obtain ⟨cz31, rfl, rz31⟩ := hu; clear rz31
  simp only [Act.put, ev_tmp, List.setIfInBounds_toArray, List.set_cons_succ, List.set_cons_zero, List.getD_cons_succ, List.getD_cons_zero]
  refine x_mv rfl rfl rfl ?_
  simp only [Act.put, ev_tmp, List.setIfInBounds_toArray, List.set_cons_succ, List.set_cons_zero, List.getD_cons_succ, List.getD_cons_zero]
  refine x_callf (f := 39) (args := #[.slice p2 (List.length D2) q2]) rfl rfl Try.func39 rfl (by kernel_rfl) ?_ ?_ ?_; (focus (simp [Act.eval]; done)); (focus (intro w1 hw1; exact ((toInt64S_ok [.slice p2 (List.length D2) q2] D2 w1 (r2.ext hw1) hb2).mono fun e w3 ⟨cs3, bs3, g1, g2, _, _, g3⟩ => ⟨_, g1, g3, by rw [HF29.out]; exact ⟨cs3, rfl, g2.rep⟩⟩))); rintro u w3 e3 e4 hu; simp only [HF29.out] at hu; obtain ⟨cz32, rfl, rz32⟩ := hu; clear rz32
  simp only [Act.put, ev_tmp, List.setIfInBounds_toArray, List.set_cons_succ, List.set_cons_zero, List.getD_cons_succ, List.getD_cons_zero]
  refine x_callK (f := 61) (args := #[ofCs shModel cz30, ofCs shTensor cz31, ofCs (.sl .int) cz32]) rfl rfl Try.func61 rfl (by kernel_rfl) ?_ ?_ ?_; (focus (simp [Act.eval]; done)); (focus (intro w1 hw1 hK; exact (by (obtain ⟨wa0, ga0, gb0, gc0⟩ := known_call hK (j := 1) (d := 115) (by kernel_rfl) rfl rfl rfl rfl Try.func16 rfl (by kernel_rfl) (by simp); rw [HF29.out] at gc0; obtain ⟨ca0, hca0, ra0⟩ := gc0; have hcb0 : ofCs shModel cz30 = ofCs shModel ca0 := hca0; rw [hcb0]; obtain ⟨wa1, ga1, gb1, gc1⟩ := known_call hK (j := 3) (d := 117) (by kernel_rfl) rfl rfl rfl rfl Try.func28 rfl (by kernel_rfl) (by simp); rw [HF29.out] at gc1; obtain ⟨ca1, hca1, ra1⟩ := gc1; have hcb1 : ofCs shTensor cz31 = ofCs shTensor ca1 := hca1; rw [hcb1]; obtain ⟨wa2, ga2, gb2, gc2⟩ := known_call hK (j := 5) (d := 119) (by kernel_rfl) rfl rfl rfl rfl Try.func39 rfl (by kernel_rfl) (by simp); rw [HF29.out] at gc2; obtain ⟨ca2, hca2, ra2⟩ := gc2; have hcb2 : ofCs (.sl .int) cz32 = ofCs (.sl .int) ca2 := hca2; rw [hcb2]; rw [HF29.out]; exact (K.out ca0 ca1 ca2 w1 (ra0.ext gb0) (ra1.ext gb1) (ra2.ext gb2) f0 f1 f2).mono fun e w3 ⟨cs3, bs3, g1, g2, g3, g4, g6⟩ => ⟨_, g1, g6, ⟨cs3, bs3, rfl, g2, g3, fun b hb => Nat.le_trans (by rw [hNd29]; exact hw1.size) (g4 b hb)⟩⟩)))); rintro u w3 e3 e4 hu; simp only [HF29.out] at hu; obtain ⟨c33_0, b33_0, rfl, o33_0, nd33_0, lo33_0⟩ := hu; replace o33_0 := o33_0.ext e4
  simp only [Act.put, ev_tmp, List.setIfInBounds_toArray, List.set_cons_succ, List.set_cons_zero, List.getD_cons_succ, List.getD_cons_zero]
  refine x_mv rfl rfl rfl ?_
  simp only [Act.put, ev_tmp, List.setIfInBounds_toArray, List.set_cons_succ, List.set_cons_zero, List.getD_cons_succ, List.getD_cons_zero]
  refine x_run rfl fun K hK w1 _ => ?_
  go_simp
  refine hK _ ?_
  clear hK K
  refine x_run rfl fun K hK w1 _ => ?_
  go_simp
  refine hK _ ?_
  clear hK K
  refine x_as rfl rfl rfl ?_
  simp only [Act.put, ev_tmp, List.setIfInBounds_toArray, List.set_cons_succ, List.set_cons_zero, List.getD_cons_succ, List.getD_cons_zero]
  refine x_as rfl rfl rfl ?_
  simp only [Act.put, ev_tmp, List.setIfInBounds_toArray, List.set_cons_succ, List.set_cons_zero, List.getD_cons_succ, List.getD_cons_zero]
  refine x_nil ?_
  replace e0 := e0.trans (hwf)
  replace s := Nat.le_trans s (Ext.size (hwf))
  replace c0 := c0.ext (hwf)
  replace c1 := c1.ext (hwf)
  replace o7_0 := o7_0.ext (hwf)
  replace cx9 := cx9.ext (hwf)
  replace cx11 := cx11.ext (hwf)
  replace o21 := o21.ext (hwf)
  replace o23m := o23m.ext (hwf)
  replace o24m := o24m.ext (hwf)
  replace o25m := o25m.ext (hwf)
  replace o27m := o27m.ext (hwf)
  replace r0 := h0.ext e0
  replace r1 := h1.ext e0
  replace r2 := h2.ext e0
  have lt33_0 := Own.lt o33_0
  have szf33 := Ext.size hwf
  obtain ⟨N33, hN33⟩ : ∃ N, N = wf.heap.size := ⟨_, rfl⟩
  rw [← hN33] at lt33_0 szf33 s
  have mm33 := s
  have s := Nat.le_of_eq hN33
  clear hwf
  obtain ⟨p_c33_0, q_c33_0, rfl, hm_c33_0⟩ := rep_val o33_0.rep
  simp only [ofCs, Sh.agg, List.headD_cons, Bool.false_eq_true, if_false]
  go_wp2_with (first | ((with_reducible show wpList _ _ _ (Oper.mk _ (Op.load _ _) _ _ _ _ :: _) _ _); refine wl_ldAw (s := shModel) (cs := cs0) (by first | rfl | (go_simp; done) | (go_simp; omega)) rfl rfl c0 hl0.out ?_) | ((with_reducible show wpList _ _ _ (Oper.mk _ (Op.load _ _) _ _ _ _ :: _) _ _); refine wl_ldAw (s := shTensor) (cs := cs1) (by first | rfl | (go_simp; done) | (go_simp; omega)) rfl rfl c1 hl1.out ?_) | ((with_reducible show wpList _ _ _ (Oper.mk _ (Op.load _ _) _ _ _ _ :: _) _ _); refine wl_ldAw (s := shModel) (cs := c8) (by first | rfl | (go_simp; done) | (go_simp; omega)) rfl rfl cx9 hxc8.out ?_) | ((with_reducible show wpList _ _ _ (Oper.mk _ (Op.load _ _) _ _ _ _ :: _) _ _); refine wl_ldAw (s := shTensor) (cs := c10) (by first | rfl | (go_simp; done) | (go_simp; omega)) rfl rfl cx11 hxc10.out ?_))
  refine (eqInt64SS_ok [.slice p_c33_0 (List.length R0) q_c33_0] [.slice p_c7_0 (List.length R0) q_c7_0] R0 _ (o33_0.rep) (o7_0.rep) hbr0).mono ?_
  rintro e w34 ⟨rfl, e34⟩
  replace e0 := e0.trans (e34)
  replace s := Nat.le_trans s (Ext.size (e34))
  replace c0 := c0.ext (e34)
  replace c1 := c1.ext (e34)
  replace o7_0 := o7_0.ext (e34)
  replace cx9 := cx9.ext (e34)
  replace cx11 := cx11.ext (e34)
  replace o21 := o21.ext (e34)
  replace o23m := o23m.ext (e34)
  replace o24m := o24m.ext (e34)
  replace o25m := o25m.ext (e34)
  replace o27m := o27m.ext (e34)
  replace o33_0 := o33_0.ext (e34)
  replace r0 := h0.ext e0
  replace r1 := h1.ext e0
  replace r2 := h2.ext e0
  clear e34
  go_wp2_with (first | ((with_reducible show wpList _ _ _ (Oper.mk _ (Op.load _ _) _ _ _ _ :: _) _ _); refine wl_ldAw (s := shModel) (cs := cs0) (by first | rfl | (go_simp; done) | (go_simp; omega)) rfl rfl c0 hl0.out ?_) | ((with_reducible show wpList _ _ _ (Oper.mk _ (Op.load _ _) _ _ _ _ :: _) _ _); refine wl_ldAw (s := shTensor) (cs := cs1) (by first | rfl | (go_simp; done) | (go_simp; omega)) rfl rfl c1 hl1.out ?_) | ((with_reducible show wpList _ _ _ (Oper.mk _ (Op.load _ _) _ _ _ _ :: _) _ _); refine wl_ldAw (s := shModel) (cs := c8) (by first | rfl | (go_simp; done) | (go_simp; omega)) rfl rfl cx9 hxc8.out ?_) | ((with_reducible show wpList _ _ _ (Oper.mk _ (Op.load _ _) _ _ _ _ :: _) _ _); refine wl_ldAw (s := shTensor) (cs := c10) (by first | rfl | (go_simp; done) | (go_simp; omega)) rfl rfl cx11 hxc10.out ?_))
  refine (heldInt64SS_ok [.slice p_c13_0 (List.length R0) q_c13_0] R0 1 _ o27m.rep (by omega) (by omega)).mono ?_
  rintro e w35 ⟨rfl, e35⟩
  replace e0 := e0.trans (e35)
  replace s := Nat.le_trans s (Ext.size (e35))
  replace c0 := c0.ext (e35)
  replace c1 := c1.ext (e35)
  replace o7_0 := o7_0.ext (e35)
  replace cx9 := cx9.ext (e35)
  replace cx11 := cx11.ext (e35)
  replace o21 := o21.ext (e35)
  replace o23m := o23m.ext (e35)
  replace o24m := o24m.ext (e35)
  replace o25m := o25m.ext (e35)
  replace o27m := o27m.ext (e35)
  replace o33_0 := o33_0.ext (e35)
  replace r0 := h0.ext e0
  replace r1 := h1.ext e0
  replace r2 := h2.ext e0
  clear e35
  rw [← HK27.out]
  go_wp2
  go_ret
  exact ⟨rfl, e0⟩
end Go.Proofs.Ytangnigplachdaa.lConfusionOf
