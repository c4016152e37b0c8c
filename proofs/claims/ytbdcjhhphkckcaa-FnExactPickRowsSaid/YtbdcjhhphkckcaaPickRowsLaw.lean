/- The law FnExactPickRows answers true at every input. -/
import Derived.Test.YtbdcjhhphkckcaaPick4
import Derived.Test.YtbdcjhhphkckcaaKb
import Derived.Test.YtbdcjhhphkckcaaKf
namespace Go.Proofs.Ytbdcjhhphkckcaa.lPickRows
set_option linter.unusedSimpArgs false
set_option linter.unusedVariables false
open Go.RowKit

set_option maxRecDepth 100000 in
set_option maxHeartbeats 1000000 in
theorem law_any (cs0 : List Value) (D0 : Sh.T shExamples) (cs1 : List Value) (D1 : Sh.T (.sl .int)) (w : World) (h0 : Rep w shExamples cs0 D0) (h1 : Rep w (.sl .int) cs1 D1) (f0 : Fit shExamples D0) (f1 : Fit (.sl .int) D1) : Calls Try.prog 6 #[ofCs shExamples cs0, ofCs (.sl .int) cs1] w fun e w' => e = .returned (.bool true) ∧ Ext w w' := by
  have hl0 := hid h0.size
  have ho0 := hid h0.one
  have hl1 := hid h1.size
  have ho1 := hid h1.one
  obtain ⟨p1, q1, rfl, hm1⟩ := rep_val h1
  rw [show ofCs (.sl .int) [.slice p1 (List.length D1) q1] = .slice p1 (List.length D1) q1 from rfl]
  have e0 := Ext.refl w
  obtain ⟨N0, hN0⟩ : ∃ N0, N0 = w.heap.size := ⟨_, rfl⟩
  have s := Nat.le_of_eq hN0
  have r0 := h0
  have r1 := h1
  go_enter Try.func6, Try.ntmps6
  by_cases hbig1 : 1048576 < List.length D1
  · go_wp2_with (first | ((with_reducible show wpList _ _ _ (Oper.mk _ (Op.box _ _) _ _ _ _ :: _) _ _); refine wl_box (s := shExamples) (cs := cs0) rfl rfl rfl hl0.out ho0.out ?_; intro b0 v0 g0 vv0 c0; have mb0 := Nat.le_trans s vv0; replace e0 := e0.trans (g0); replace s := Nat.le_trans s (Ext.size (g0)); replace r0 := h0.ext e0; replace r1 := h1.ext e0; have vl0 := Cs.blkLt c0 (by rw [hl0.out]; decide); obtain ⟨Nb0, hNb0⟩ : ∃ N, N = v0.heap.size := ⟨_, rfl⟩; rw [← hNb0] at vl0; have s := Nat.le_of_eq hNb0) | ((with_reducible show wpList _ _ _ (Oper.mk _ (Op.load _ _) _ _ _ _ :: _) _ _); refine wl_ldAw (s := shExamples) (cs := cs0) (by first | rfl | (go_simp; done) | (go_simp; omega)) rfl rfl c0 hl0.out ?_))
    go_ret
    exact ⟨rfl, e0⟩
  have hb1 : tot (.sl .int) D1 ≤ 1048576 := by rw [tot_ints]; omega
  go_wp2_with (first | ((with_reducible show wpList _ _ _ (Oper.mk _ (Op.box _ _) _ _ _ _ :: _) _ _); refine wl_box (s := shExamples) (cs := cs0) rfl rfl rfl hl0.out ho0.out ?_; intro b0 v0 g0 vv0 c0; have mb0 := Nat.le_trans s vv0; replace e0 := e0.trans (g0); replace s := Nat.le_trans s (Ext.size (g0)); replace r0 := h0.ext e0; replace r1 := h1.ext e0; have vl0 := Cs.blkLt c0 (by rw [hl0.out]; decide); obtain ⟨Nb0, hNb0⟩ : ∃ N, N = v0.heap.size := ⟨_, rfl⟩; rw [← hNb0] at vl0; have s := Nat.le_of_eq hNb0) | ((with_reducible show wpList _ _ _ (Oper.mk _ (Op.load _ _) _ _ _ _ :: _) _ _); refine wl_ldAw (s := shExamples) (cs := cs0) (by first | rfl | (go_simp; done) | (go_simp; omega)) rfl rfl c0 hl0.out ?_))
  refine (szExamples_ok cs0 D0 1048576 _ r0 (by omega) (by omega)).mono ?_
  rintro e w1 ⟨⟨s1, rfl, hs1⟩, e1⟩
  replace e0 := e0.trans (e1)
  replace s := Nat.le_trans s (Ext.size (e1))
  replace c0 := c0.ext (e1)
  replace r0 := h0.ext e0
  replace r1 := h1.ext e0
  clear e1
  by_cases hn1 : s1 < 0
  · go_wp2
    go_ret
    exact ⟨rfl, e0⟩
  have hb0 : tot shExamples D0 ≤ 1048576 := by rcases hs1 with h | h; exact absurd h hn1; omega
  have hz1 : 0 ≤ s1 := by omega
  have ht1 : s1 ≤ 1048576 := by rcases hs1 with h | h; exact absurd h hn1; omega
  clear hs1
  go_wp2_with (first | ((with_reducible show wpList _ _ _ (Oper.mk _ (Op.load _ _) _ _ _ _ :: _) _ _); refine wl_ldAw (s := shExamples) (cs := cs0) (by first | rfl | (go_simp; done) | (go_simp; omega)) rfl rfl c0 hl0.out ?_))
  refine (toExamples_ok cs0 D0 _ r0 hb0).mono ?_
  rintro e w2 ⟨c2, b2, rfl, o2, nd2, lo2, e2⟩
  have m2 := s
  have sz2 := Ext.size e2
  have lt2 := Own.lt o2
  replace e0 := e0.trans (e2)
  replace s := Nat.le_trans s (Ext.size (e2))
  replace c0 := c0.ext (e2)
  replace r0 := h0.ext e0
  replace r1 := h1.ext e0
  clear e2
  obtain ⟨N2, hN2⟩ : ∃ N, N = w2.heap.size := ⟨_, rfl⟩
  rw [← hN2] at sz2 lt2
  have s := Nat.le_of_eq hN2
  have hxc2 := hid o2.rep.size
  have hyc2 := hid o2.rep.one
  go_wp2_with (first | ((with_reducible show wpList _ _ _ (Oper.mk _ (Op.load _ _) _ _ _ _ :: _) _ _); refine wl_ldAw (s := shExamples) (cs := cs0) (by first | rfl | (go_simp; done) | (go_simp; omega)) rfl rfl c0 hl0.out ?_))
  refine (toInt64S_ok [.slice p1 (List.length D1) q1] D1 _ r1 hb1).mono ?_
  rintro e w3 ⟨c3, b3, rfl, o3, nd3, lo3, e3⟩
  have m3 := s
  have sz3 := Ext.size e3
  have lt3 := Own.lt o3
  replace e0 := e0.trans (e3)
  replace s := Nat.le_trans s (Ext.size (e3))
  replace c0 := c0.ext (e3)
  replace o2 := o2.ext (e3)
  replace r0 := h0.ext e0
  replace r1 := h1.ext e0
  clear e3
  obtain ⟨N3, hN3⟩ : ∃ N, N = w3.heap.size := ⟨_, rfl⟩
  rw [← hN3] at sz3 lt3
  have s := Nat.le_of_eq hN3
  obtain ⟨p_c3, q_c3, rfl, hm_c3⟩ := rep_val o3.rep
  simp only [ofCs, Sh.agg, List.headD_cons, Bool.false_eq_true, if_false]
  go_wp2_with (first | ((with_reducible show wpList _ _ _ (Oper.mk _ (Op.load _ _) _ _ _ _ :: _) _ _); refine wl_ldAw (s := shExamples) (cs := cs0) (by first | rfl | (go_simp; done) | (go_simp; omega)) rfl rfl c0 hl0.out ?_))
  refine (spec_ok c2 D0 [.slice p_c3 (List.length D1) q_c3] D1 _ o2.rep o3.rep f0 f1).mono ?_
  rintro e w4 ⟨c4_0, b4_0, rfl, o4_0, nd4_0, lo4_0, _, e4⟩
  have hbr0 := res_bd D0 D1 hb0 hb1 f0 f1
  have K := hid (fun y0 y1 W => impl_ok y0 D0 y1 D1 W)
  generalize res D0 D1 = r at *
  obtain ⟨R0, R1⟩ := r
  dsimp only at hbr0 o4_0
  have m4 := s
  have sz4 := Ext.size e4
  have lt4_0 := Own.lt o4_0
  replace e0 := e0.trans (e4)
  replace s := Nat.le_trans s (Ext.size (e4))
  replace c0 := c0.ext (e4)
  replace o2 := o2.ext (e4)
  replace o3 := o3.ext (e4)
  replace r0 := h0.ext e0
  replace r1 := h1.ext e0
  clear e4
  obtain ⟨N4, hN4⟩ : ∃ N, N = w4.heap.size := ⟨_, rfl⟩
  rw [← hN4] at sz4 lt4_0
  have s := Nat.le_of_eq hN4
  have hxc4_0 := hid o4_0.rep.size
  have hyc4_0 := hid o4_0.rep.one
  go_wp2_with (first | ((with_reducible show wpList _ _ _ (Oper.mk _ (Op.load _ _) _ _ _ _ :: _) _ _); refine wl_ldAw (s := shExamples) (cs := cs0) (by first | rfl | (go_simp; done) | (go_simp; omega)) rfl rfl c0 hl0.out ?_) | ((with_reducible show wpList _ _ _ (Oper.mk _ (Op.store _ _ _) _ _ _ _ :: _) _ _); refine wl_stA (s := shExamples) (cs := c4_0) rfl rfl rfl rfl (by first | exact heap_alloc_new _ _ | exact heap_alloc_old2 _ _ _) rfl hxc4_0.out hyc4_0.out (by decide) ?_; intro wc5 cx5 ch5; have E5 := (Ext.of_chg1 ch5); have mc5 := s; replace e0 := e0.trans (E5); replace s := Nat.le_trans s (Ext.size (E5)); replace c0 := c0.ext (E5); replace o2 := o2.ext (E5); replace o3 := o3.ext (E5); replace o4_0 := o4_0.ext (E5); replace r0 := h0.ext e0; replace r1 := h1.ext e0; have vl5 := Cs.blkLt cx5 (by rw [hxc4_0.out]; decide); obtain ⟨Nc5, hNc5⟩ : ∃ N, N = wc5.heap.size := ⟨_, rfl⟩; rw [← hNc5] at vl5; have s := Nat.le_of_eq hNc5; clear E5 ch5) | ((with_reducible show wpList _ _ _ (Oper.mk _ (Op.load _ _) _ _ _ _ :: _) _ _); refine wl_ldAw (s := shExamples) (cs := c4_0) (by first | rfl | (go_simp; done) | (go_simp; omega)) rfl rfl cx5 hxc4_0.out ?_))
  refine (toExamples_ok cs0 D0 _ r0 hb0).mono ?_
  rintro e w6 ⟨c6, b6, rfl, o6, nd6, lo6, e6⟩
  have m6 := s
  have sz6 := Ext.size e6
  have lt6 := Own.lt o6
  replace e0 := e0.trans (e6)
  replace s := Nat.le_trans s (Ext.size (e6))
  replace c0 := c0.ext (e6)
  replace o2 := o2.ext (e6)
  replace o3 := o3.ext (e6)
  replace o4_0 := o4_0.ext (e6)
  replace cx5 := cx5.ext (e6)
  replace r0 := h0.ext e0
  replace r1 := h1.ext e0
  clear e6
  obtain ⟨N6, hN6⟩ : ∃ N, N = w6.heap.size := ⟨_, rfl⟩
  rw [← hN6] at sz6 lt6
  have s := Nat.le_of_eq hN6
  have hxc6 := hid o6.rep.size
  have hyc6 := hid o6.rep.one
  go_wp2_with (first | ((with_reducible show wpList _ _ _ (Oper.mk _ (Op.load _ _) _ _ _ _ :: _) _ _); refine wl_ldAw (s := shExamples) (cs := cs0) (by first | rfl | (go_simp; done) | (go_simp; omega)) rfl rfl c0 hl0.out ?_) | ((with_reducible show wpList _ _ _ (Oper.mk _ (Op.load _ _) _ _ _ _ :: _) _ _); refine wl_ldAw (s := shExamples) (cs := c4_0) (by first | rfl | (go_simp; done) | (go_simp; omega)) rfl rfl cx5 hxc4_0.out ?_) | ((with_reducible show wpList _ _ _ (Oper.mk _ (Op.store _ _ _) _ _ _ _ :: _) _ _); refine wl_stA (s := shExamples) (cs := c6) rfl rfl rfl rfl (by first | exact heap_alloc_new _ _ | exact heap_alloc_old2 _ _ _) rfl hxc6.out hyc6.out (by decide) ?_; intro wc7 cx7 ch7; have E7 := (Ext.of_chg1 ch7); have mc7 := s; replace e0 := e0.trans (E7); replace s := Nat.le_trans s (Ext.size (E7)); replace c0 := c0.ext (E7); replace o2 := o2.ext (E7); replace o3 := o3.ext (E7); replace o4_0 := o4_0.ext (E7); replace cx5 := cx5.ext (E7); replace o6 := o6.ext (E7); replace r0 := h0.ext e0; replace r1 := h1.ext e0; have vl7 := Cs.blkLt cx7 (by rw [hxc6.out]; decide); obtain ⟨Nc7, hNc7⟩ : ∃ N, N = wc7.heap.size := ⟨_, rfl⟩; rw [← hNc7] at vl7; have s := Nat.le_of_eq hNc7; clear E7 ch7) | ((with_reducible show wpList _ _ _ (Oper.mk _ (Op.load _ _) _ _ _ _ :: _) _ _); refine wl_ldAw (s := shExamples) (cs := c6) (by first | rfl | (go_simp; done) | (go_simp; omega)) rfl rfl cx7 hxc6.out ?_))
  refine (toInt64S_ok [.slice p1 (List.length D1) q1] D1 _ r1 hb1).mono ?_
  rintro e w8 ⟨c8, b8, rfl, o8, nd8, lo8, e8⟩
  have m8 := s
  have sz8 := Ext.size e8
  have lt8 := Own.lt o8
  replace e0 := e0.trans (e8)
  replace s := Nat.le_trans s (Ext.size (e8))
  replace c0 := c0.ext (e8)
  replace o2 := o2.ext (e8)
  replace o3 := o3.ext (e8)
  replace o4_0 := o4_0.ext (e8)
  replace cx5 := cx5.ext (e8)
  replace o6 := o6.ext (e8)
  replace cx7 := cx7.ext (e8)
  replace r0 := h0.ext e0
  replace r1 := h1.ext e0
  clear e8
  obtain ⟨N8, hN8⟩ : ∃ N, N = w8.heap.size := ⟨_, rfl⟩
  rw [← hN8] at sz8 lt8
  have s := Nat.le_of_eq hN8
  obtain ⟨p_c8, q_c8, rfl, hm_c8⟩ := rep_val o8.rep
  simp only [ofCs, Sh.agg, List.headD_cons, Bool.false_eq_true, if_false]
  go_wp2_with (first | ((with_reducible show wpList _ _ _ (Oper.mk _ (Op.load _ _) _ _ _ _ :: _) _ _); refine wl_ldAw (s := shExamples) (cs := cs0) (by first | rfl | (go_simp; done) | (go_simp; omega)) rfl rfl c0 hl0.out ?_) | ((with_reducible show wpList _ _ _ (Oper.mk _ (Op.load _ _) _ _ _ _ :: _) _ _); refine wl_ldAw (s := shExamples) (cs := c4_0) (by first | rfl | (go_simp; done) | (go_simp; omega)) rfl rfl cx5 hxc4_0.out ?_) | ((with_reducible show wpList _ _ _ (Oper.mk _ (Op.load _ _) _ _ _ _ :: _) _ _); refine wl_ldAw (s := shExamples) (cs := c6) (by first | rfl | (go_simp; done) | (go_simp; omega)) rfl rfl cx7 hxc6.out ?_))
  refine (K.out c6 [.slice p_c8 (List.length D1) q_c8] _ o6.rep o8.rep f0 f1).mono ?_
  rintro e w9 ⟨c9_0, b9_0, rfl, o9_0, nd9_0, lo9_0, _, e9⟩
  dsimp only at o9_0
  have m9 := s
  have sz9 := Ext.size e9
  have lt9_0 := Own.lt o9_0
  replace e0 := e0.trans (e9)
  replace s := Nat.le_trans s (Ext.size (e9))
  replace c0 := c0.ext (e9)
  replace o2 := o2.ext (e9)
  replace o3 := o3.ext (e9)
  replace o4_0 := o4_0.ext (e9)
  replace cx5 := cx5.ext (e9)
  replace o6 := o6.ext (e9)
  replace cx7 := cx7.ext (e9)
  replace o8 := o8.ext (e9)
  replace r0 := h0.ext e0
  replace r1 := h1.ext e0
  clear e9
  obtain ⟨N9, hN9⟩ : ∃ N, N = w9.heap.size := ⟨_, rfl⟩
  rw [← hN9] at sz9 lt9_0
  have s := Nat.le_of_eq hN9
  have hxc9_0 := hid o9_0.rep.size
  have hyc9_0 := hid o9_0.rep.one
  go_wp2_with (first | ((with_reducible show wpList _ _ _ (Oper.mk _ (Op.load _ _) _ _ _ _ :: _) _ _); refine wl_ldAw (s := shExamples) (cs := cs0) (by first | rfl | (go_simp; done) | (go_simp; omega)) rfl rfl c0 hl0.out ?_) | ((with_reducible show wpList _ _ _ (Oper.mk _ (Op.load _ _) _ _ _ _ :: _) _ _); refine wl_ldAw (s := shExamples) (cs := c4_0) (by first | rfl | (go_simp; done) | (go_simp; omega)) rfl rfl cx5 hxc4_0.out ?_) | ((with_reducible show wpList _ _ _ (Oper.mk _ (Op.load _ _) _ _ _ _ :: _) _ _); refine wl_ldAw (s := shExamples) (cs := c6) (by first | rfl | (go_simp; done) | (go_simp; omega)) rfl rfl cx7 hxc6.out ?_) | ((with_reducible show wpList _ _ _ (Oper.mk _ (Op.store _ _ _) _ _ _ _ :: _) _ _); refine wl_stA (s := shExamples) (cs := c9_0) rfl rfl rfl rfl (by first | exact heap_alloc_new _ _ | exact heap_alloc_old2 _ _ _) rfl hxc9_0.out hyc9_0.out (by decide) ?_; intro wc10 cx10 ch10; have E10 := (Ext.of_chg1 ch10); have mc10 := s; replace e0 := e0.trans (E10); replace s := Nat.le_trans s (Ext.size (E10)); replace c0 := c0.ext (E10); replace o2 := o2.ext (E10); replace o3 := o3.ext (E10); replace o4_0 := o4_0.ext (E10); replace cx5 := cx5.ext (E10); replace o6 := o6.ext (E10); replace cx7 := cx7.ext (E10); replace o8 := o8.ext (E10); replace o9_0 := o9_0.ext (E10); replace r0 := h0.ext e0; replace r1 := h1.ext e0; have vl10 := Cs.blkLt cx10 (by rw [hxc9_0.out]; decide); obtain ⟨Nc10, hNc10⟩ : ∃ N, N = wc10.heap.size := ⟨_, rfl⟩; rw [← hNc10] at vl10; have s := Nat.le_of_eq hNc10; clear E10 ch10) | ((with_reducible show wpList _ _ _ (Oper.mk _ (Op.load _ _) _ _ _ _ :: _) _ _); refine wl_ldAw (s := shExamples) (cs := c9_0) (by first | rfl | (go_simp; done) | (go_simp; omega)) rfl rfl cx10 hxc9_0.out ?_))
  refine (eqExamples_ok c9_0 c4_0 R0 _ (o9_0.rep) (o4_0.rep) hbr0).mono ?_
  rintro e w11 ⟨rfl, e11⟩
  replace e0 := e0.trans (e11)
  replace s := Nat.le_trans s (Ext.size (e11))
  replace c0 := c0.ext (e11)
  replace o2 := o2.ext (e11)
  replace o3 := o3.ext (e11)
  replace o4_0 := o4_0.ext (e11)
  replace cx5 := cx5.ext (e11)
  replace o6 := o6.ext (e11)
  replace cx7 := cx7.ext (e11)
  replace o8 := o8.ext (e11)
  replace o9_0 := o9_0.ext (e11)
  replace cx10 := cx10.ext (e11)
  replace r0 := h0.ext e0
  replace r1 := h1.ext e0
  clear e11
  go_wp2_with (first | ((with_reducible show wpList _ _ _ (Oper.mk _ (Op.load _ _) _ _ _ _ :: _) _ _); refine wl_ldAw (s := shExamples) (cs := cs0) (by first | rfl | (go_simp; done) | (go_simp; omega)) rfl rfl c0 hl0.out ?_) | ((with_reducible show wpList _ _ _ (Oper.mk _ (Op.load _ _) _ _ _ _ :: _) _ _); refine wl_ldAw (s := shExamples) (cs := c4_0) (by first | rfl | (go_simp; done) | (go_simp; omega)) rfl rfl cx5 hxc4_0.out ?_) | ((with_reducible show wpList _ _ _ (Oper.mk _ (Op.load _ _) _ _ _ _ :: _) _ _); refine wl_ldAw (s := shExamples) (cs := c6) (by first | rfl | (go_simp; done) | (go_simp; omega)) rfl rfl cx7 hxc6.out ?_) | ((with_reducible show wpList _ _ _ (Oper.mk _ (Op.load _ _) _ _ _ _ :: _) _ _); refine wl_ldAw (s := shExamples) (cs := c9_0) (by first | rfl | (go_simp; done) | (go_simp; omega)) rfl rfl cx10 hxc9_0.out ?_))
  replace e0 := e0.trans ((Ext.drew _))
  replace s := Nat.le_trans s (Ext.size ((Ext.drew _)))
  replace c0 := c0.ext ((Ext.drew _))
  replace o2 := o2.ext ((Ext.drew _))
  replace o3 := o3.ext ((Ext.drew _))
  replace o4_0 := o4_0.ext ((Ext.drew _))
  replace cx5 := cx5.ext ((Ext.drew _))
  replace o6 := o6.ext ((Ext.drew _))
  replace cx7 := cx7.ext ((Ext.drew _))
  replace o8 := o8.ext ((Ext.drew _))
  replace o9_0 := o9_0.ext ((Ext.drew _))
  replace cx10 := cx10.ext ((Ext.drew _))
  replace r0 := h0.ext e0
  replace r1 := h1.ext e0
  obtain ⟨F12, hF12⟩ : ∃ F : Option Tmp → World → Value → Prop, F = fun d W u => (match d with | some 54 => ∃ cs', u = ofCs shExamples cs' ∧ Rep W shExamples cs' D0 | _ => True) := ⟨_, rfl⟩
  have HF12 := hid hF12
  clear hF12
  refine wp_region_xt 3 (F := F12) (by kernel_rfl) (by kernel_rfl) (by kernel_rfl) (by kernel_rfl) (by kernel_rfl) ?_
  intro wf hwf
  simp only [List.take_succ_cons, List.take_zero, List.drop_succ_cons, List.drop_zero]
  first | (refine x_ldA (s := shExamples) (cs := cs0) rfl rfl rfl c0 hl0.out ?_) | (refine x_ldA (s := shExamples) (cs := c4_0) rfl rfl rfl cx5 hxc4_0.out ?_) | (refine x_ldA (s := shExamples) (cs := c6) rfl rfl rfl cx7 hxc6.out ?_) | (refine x_ldA (s := shExamples) (cs := c9_0) rfl rfl rfl cx10 hxc9_0.out ?_)
  simp only [Act.put, ev_tmp, List.setIfInBounds_toArray, List.set_cons_succ, List.set_cons_zero, List.getD_cons_succ, List.getD_cons_zero]
  first | (refine x_ldA (s := shExamples) (cs := cs0) rfl rfl rfl c0 hl0.out ?_) | (refine x_ldA (s := shExamples) (cs := c4_0) rfl rfl rfl cx5 hxc4_0.out ?_) | (refine x_ldA (s := shExamples) (cs := c6) rfl rfl rfl cx7 hxc6.out ?_) | (refine x_ldA (s := shExamples) (cs := c9_0) rfl rfl rfl cx10 hxc9_0.out ?_)
  simp only [Act.put, ev_tmp, List.setIfInBounds_toArray, List.set_cons_succ, List.set_cons_zero, List.getD_cons_succ, List.getD_cons_zero]
  refine x_callf (f := 31) (args := #[ofCs shExamples cs0]) rfl rfl Try.func31 rfl (by kernel_rfl) ?_ ?_ ?_; (focus (simp [Act.eval]; done)); (focus (intro w1 hw1; exact ((toExamples_ok cs0 D0 w1 (r0.ext hw1) hb0).mono fun e w3 ⟨cs3, bs3, g1, g2, _, _, g3⟩ => ⟨_, g1, g3, by rw [HF12.out]; exact ⟨cs3, rfl, g2.rep⟩⟩))); rintro u w3 e3 e4 hu; simp only [HF12.out] at hu; obtain ⟨cz13, rfl, rz13⟩ := hu; replace rz13 := rz13.ext e4
  simp only [Act.put, ev_tmp, List.setIfInBounds_toArray, List.set_cons_succ, List.set_cons_zero, List.getD_cons_succ, List.getD_cons_zero]
  refine x_nil ?_
  replace e0 := e0.trans (hwf)
  replace s := Nat.le_trans s (Ext.size (hwf))
  replace c0 := c0.ext (hwf)
  replace o2 := o2.ext (hwf)
  replace o3 := o3.ext (hwf)
  replace o4_0 := o4_0.ext (hwf)
  replace cx5 := cx5.ext (hwf)
  replace o6 := o6.ext (hwf)
  replace cx7 := cx7.ext (hwf)
  replace o8 := o8.ext (hwf)
  replace o9_0 := o9_0.ext (hwf)
  replace cx10 := cx10.ext (hwf)
  replace r0 := h0.ext e0
  replace r1 := h1.ext e0
  clear hwf
  go_wp2_with fail
  refine (eqExamples_ok c6 cz13 D0 _ (o6.rep) (rz13) hb0).mono ?_
  rintro e w14 ⟨rfl, e14⟩
  replace e0 := e0.trans (e14)
  replace s := Nat.le_trans s (Ext.size (e14))
  replace c0 := c0.ext (e14)
  replace o2 := o2.ext (e14)
  replace o3 := o3.ext (e14)
  replace o4_0 := o4_0.ext (e14)
  replace cx5 := cx5.ext (e14)
  replace o6 := o6.ext (e14)
  replace cx7 := cx7.ext (e14)
  replace o8 := o8.ext (e14)
  replace o9_0 := o9_0.ext (e14)
  replace cx10 := cx10.ext (e14)
  replace rz13 := rz13.ext (e14)
  replace r0 := h0.ext e0
  replace r1 := h1.ext e0
  clear e14
  go_wp2_with (first | ((with_reducible show wpList _ _ _ (Oper.mk _ (Op.load _ _) _ _ _ _ :: _) _ _); refine wl_ldAw (s := shExamples) (cs := cs0) (by first | rfl | (go_simp; done) | (go_simp; omega)) rfl rfl c0 hl0.out ?_) | ((with_reducible show wpList _ _ _ (Oper.mk _ (Op.load _ _) _ _ _ _ :: _) _ _); refine wl_ldAw (s := shExamples) (cs := c4_0) (by first | rfl | (go_simp; done) | (go_simp; omega)) rfl rfl cx5 hxc4_0.out ?_) | ((with_reducible show wpList _ _ _ (Oper.mk _ (Op.load _ _) _ _ _ _ :: _) _ _); refine wl_ldAw (s := shExamples) (cs := c6) (by first | rfl | (go_simp; done) | (go_simp; omega)) rfl rfl cx7 hxc6.out ?_) | ((with_reducible show wpList _ _ _ (Oper.mk _ (Op.load _ _) _ _ _ _ :: _) _ _); refine wl_ldAw (s := shExamples) (cs := c9_0) (by first | rfl | (go_simp; done) | (go_simp; omega)) rfl rfl cx10 hxc9_0.out ?_))
  refine (toInt64S_ok [.slice p1 (List.length D1) q1] D1 _ r1 hb1).mono ?_
  rintro e w15 ⟨c15, b15, rfl, o15, nd15, lo15, e15⟩
  have m15 := s
  have sz15 := Ext.size e15
  have lt15 := Own.lt o15
  replace e0 := e0.trans (e15)
  replace s := Nat.le_trans s (Ext.size (e15))
  replace c0 := c0.ext (e15)
  replace o2 := o2.ext (e15)
  replace o3 := o3.ext (e15)
  replace o4_0 := o4_0.ext (e15)
  replace cx5 := cx5.ext (e15)
  replace o6 := o6.ext (e15)
  replace cx7 := cx7.ext (e15)
  replace o8 := o8.ext (e15)
  replace o9_0 := o9_0.ext (e15)
  replace cx10 := cx10.ext (e15)
  replace rz13 := rz13.ext (e15)
  replace r0 := h0.ext e0
  replace r1 := h1.ext e0
  clear e15
  obtain ⟨N15, hN15⟩ : ∃ N, N = w15.heap.size := ⟨_, rfl⟩
  rw [← hN15] at sz15 lt15
  have s := Nat.le_of_eq hN15
  obtain ⟨p_c15, q_c15, rfl, hm_c15⟩ := rep_val o15.rep
  simp only [ofCs, Sh.agg, List.headD_cons, Bool.false_eq_true, if_false]
  go_wp2_with (first | ((with_reducible show wpList _ _ _ (Oper.mk _ (Op.load _ _) _ _ _ _ :: _) _ _); refine wl_ldAw (s := shExamples) (cs := cs0) (by first | rfl | (go_simp; done) | (go_simp; omega)) rfl rfl c0 hl0.out ?_) | ((with_reducible show wpList _ _ _ (Oper.mk _ (Op.load _ _) _ _ _ _ :: _) _ _); refine wl_ldAw (s := shExamples) (cs := c4_0) (by first | rfl | (go_simp; done) | (go_simp; omega)) rfl rfl cx5 hxc4_0.out ?_) | ((with_reducible show wpList _ _ _ (Oper.mk _ (Op.load _ _) _ _ _ _ :: _) _ _); refine wl_ldAw (s := shExamples) (cs := c6) (by first | rfl | (go_simp; done) | (go_simp; omega)) rfl rfl cx7 hxc6.out ?_) | ((with_reducible show wpList _ _ _ (Oper.mk _ (Op.load _ _) _ _ _ _ :: _) _ _); refine wl_ldAw (s := shExamples) (cs := c9_0) (by first | rfl | (go_simp; done) | (go_simp; omega)) rfl rfl cx10 hxc9_0.out ?_))
  refine (eqInt64S_ok [.slice p_c8 (List.length D1) q_c8] [.slice p_c15 (List.length D1) q_c15] D1 _ (o8.rep) (o15.rep) hb1).mono ?_
  rintro e w16 ⟨rfl, e16⟩
  replace e0 := e0.trans (e16)
  replace s := Nat.le_trans s (Ext.size (e16))
  replace c0 := c0.ext (e16)
  replace o2 := o2.ext (e16)
  replace o3 := o3.ext (e16)
  replace o4_0 := o4_0.ext (e16)
  replace cx5 := cx5.ext (e16)
  replace o6 := o6.ext (e16)
  replace cx7 := cx7.ext (e16)
  replace o8 := o8.ext (e16)
  replace o9_0 := o9_0.ext (e16)
  replace cx10 := cx10.ext (e16)
  replace rz13 := rz13.ext (e16)
  replace o15 := o15.ext (e16)
  replace r0 := h0.ext e0
  replace r1 := h1.ext e0
  clear e16
  go_wp2_with (first | ((with_reducible show wpList _ _ _ (Oper.mk _ (Op.load _ _) _ _ _ _ :: _) _ _); refine wl_ldAw (s := shExamples) (cs := cs0) (by first | rfl | (go_simp; done) | (go_simp; omega)) rfl rfl c0 hl0.out ?_) | ((with_reducible show wpList _ _ _ (Oper.mk _ (Op.load _ _) _ _ _ _ :: _) _ _); refine wl_ldAw (s := shExamples) (cs := c4_0) (by first | rfl | (go_simp; done) | (go_simp; omega)) rfl rfl cx5 hxc4_0.out ?_) | ((with_reducible show wpList _ _ _ (Oper.mk _ (Op.load _ _) _ _ _ _ :: _) _ _); refine wl_ldAw (s := shExamples) (cs := c6) (by first | rfl | (go_simp; done) | (go_simp; omega)) rfl rfl cx7 hxc6.out ?_) | ((with_reducible show wpList _ _ _ (Oper.mk _ (Op.load _ _) _ _ _ _ :: _) _ _); refine wl_ldAw (s := shExamples) (cs := c9_0) (by first | rfl | (go_simp; done) | (go_simp; omega)) rfl rfl cx10 hxc9_0.out ?_))
  have mb17 := mkV_bd shExamples (by decide) D0 1
  refine (markExamples_ok c6 D0 b6 1 _ o6 nd6 (by omega) (by omega)).mono ?_
  rintro e w17 ⟨rfl, o17m, ch17⟩
  replace e0 := e0.chg ch17 fun b hb => by have := lo6 b hb; omega
  replace s := Nat.le_trans s (Chg.size ch17)
  replace c0 := Cs.chgB c0 ch17 (Cs.blkLt c0 (by rw [hl0.out]; decide)) (fun h => by have := lo6 _ h; have := lt6 _ h; omega)
  replace o2 := o2.chg ch17 (fun b hb h => by have := lo2 b hb; have := lt2 b hb; have := lo6 b h; have := lt6 b h; omega)
  replace o3 := o3.chg ch17 (fun b hb h => by have := lo3 b hb; have := lt3 b hb; have := lo6 b h; have := lt6 b h; omega)
  replace o4_0 := o4_0.chg ch17 (fun b hb h => by have := lo4_0 b hb; have := lt4_0 b hb; have := lo6 b h; have := lt6 b h; omega)
  replace cx5 := Cs.chgB cx5 ch17 (Cs.blkLt cx5 (by rw [hxc4_0.out]; decide)) (fun h => by have := lo6 _ h; have := lt6 _ h; omega)
  replace cx7 := Cs.chgB cx7 ch17 (Cs.blkLt cx7 (by rw [hxc6.out]; decide)) (fun h => by have := lo6 _ h; have := lt6 _ h; omega)
  replace o8 := o8.chg ch17 (fun b hb h => by have := lo8 b hb; have := lt8 b hb; have := lo6 b h; have := lt6 b h; omega)
  replace o9_0 := o9_0.chg ch17 (fun b hb h => by have := lo9_0 b hb; have := lt9_0 b hb; have := lo6 b h; have := lt6 b h; omega)
  replace cx10 := Cs.chgB cx10 ch17 (Cs.blkLt cx10 (by rw [hxc9_0.out]; decide)) (fun h => by have := lo6 _ h; have := lt6 _ h; omega)
  clear rz13
  replace o15 := o15.chg ch17 (fun b hb h => by have := lo15 b hb; have := lt15 b hb; have := lo6 b h; have := lt6 b h; omega)
  replace r0 := h0.ext e0
  replace r1 := h1.ext e0
  clear o6 ch17
  obtain ⟨k17, hk17⟩ : ∃ k, k = (mkV shExamples D0 1).2 := ⟨_, rfl⟩
  rw [← hk17] at mb17 ⊢
  have HK17 := hid hk17
  clear hk17
  go_wp2_with (first | ((with_reducible show wpList _ _ _ (Oper.mk _ (Op.load _ _) _ _ _ _ :: _) _ _); refine wl_ldAw (s := shExamples) (cs := cs0) (by first | rfl | (go_simp; done) | (go_simp; omega)) rfl rfl c0 hl0.out ?_) | ((with_reducible show wpList _ _ _ (Oper.mk _ (Op.load _ _) _ _ _ _ :: _) _ _); refine wl_ldAw (s := shExamples) (cs := c4_0) (by first | rfl | (go_simp; done) | (go_simp; omega)) rfl rfl cx5 hxc4_0.out ?_) | ((with_reducible show wpList _ _ _ (Oper.mk _ (Op.load _ _) _ _ _ _ :: _) _ _); refine wl_ldAw (s := shExamples) (cs := c6) (by first | rfl | (go_simp; done) | (go_simp; omega)) rfl rfl cx7 hxc6.out ?_) | ((with_reducible show wpList _ _ _ (Oper.mk _ (Op.load _ _) _ _ _ _ :: _) _ _); refine wl_ldAw (s := shExamples) (cs := c9_0) (by first | rfl | (go_simp; done) | (go_simp; omega)) rfl rfl cx10 hxc9_0.out ?_))
  have mb18 := mkV_bd (.sl .int) (by decide) D1 k17
  refine (markInt64S_ok [.slice p_c8 (List.length D1) q_c8] D1 b8 k17 _ o8 nd8 (by omega) (by omega)).mono ?_
  rintro e w18 ⟨rfl, o18m, ch18⟩
  replace e0 := e0.chg ch18 fun b hb => by have := lo8 b hb; omega
  replace s := Nat.le_trans s (Chg.size ch18)
  replace c0 := Cs.chgB c0 ch18 (Cs.blkLt c0 (by rw [hl0.out]; decide)) (fun h => by have := lo8 _ h; have := lt8 _ h; omega)
  replace o2 := o2.chg ch18 (fun b hb h => by have := lo2 b hb; have := lt2 b hb; have := lo8 b h; have := lt8 b h; omega)
  replace o3 := o3.chg ch18 (fun b hb h => by have := lo3 b hb; have := lt3 b hb; have := lo8 b h; have := lt8 b h; omega)
  replace o4_0 := o4_0.chg ch18 (fun b hb h => by have := lo4_0 b hb; have := lt4_0 b hb; have := lo8 b h; have := lt8 b h; omega)
  replace cx5 := Cs.chgB cx5 ch18 (Cs.blkLt cx5 (by rw [hxc4_0.out]; decide)) (fun h => by have := lo8 _ h; have := lt8 _ h; omega)
  replace cx7 := Cs.chgB cx7 ch18 (Cs.blkLt cx7 (by rw [hxc6.out]; decide)) (fun h => by have := lo8 _ h; have := lt8 _ h; omega)
  replace o9_0 := o9_0.chg ch18 (fun b hb h => by have := lo9_0 b hb; have := lt9_0 b hb; have := lo8 b h; have := lt8 b h; omega)
  replace cx10 := Cs.chgB cx10 ch18 (Cs.blkLt cx10 (by rw [hxc9_0.out]; decide)) (fun h => by have := lo8 _ h; have := lt8 _ h; omega)
  replace o15 := o15.chg ch18 (fun b hb h => by have := lo15 b hb; have := lt15 b hb; have := lo8 b h; have := lt8 b h; omega)
  replace o17m := o17m.chg ch18 (fun b hb h => by have := lo6 b hb; have := lt6 b hb; have := lo8 b h; have := lt8 b h; omega)
  replace r0 := h0.ext e0
  replace r1 := h1.ext e0
  clear o8 ch18
  obtain ⟨k18, hk18⟩ : ∃ k, k = (mkV (.sl .int) D1 k17).2 := ⟨_, rfl⟩
  rw [← hk18] at mb18 ⊢
  have HK18 := hid hk18
  clear hk18
  go_wp2_with (first | ((with_reducible show wpList _ _ _ (Oper.mk _ (Op.load _ _) _ _ _ _ :: _) _ _); refine wl_ldAw (s := shExamples) (cs := cs0) (by first | rfl | (go_simp; done) | (go_simp; omega)) rfl rfl c0 hl0.out ?_) | ((with_reducible show wpList _ _ _ (Oper.mk _ (Op.load _ _) _ _ _ _ :: _) _ _); refine wl_ldAw (s := shExamples) (cs := c4_0) (by first | rfl | (go_simp; done) | (go_simp; omega)) rfl rfl cx5 hxc4_0.out ?_) | ((with_reducible show wpList _ _ _ (Oper.mk _ (Op.load _ _) _ _ _ _ :: _) _ _); refine wl_ldAw (s := shExamples) (cs := c6) (by first | rfl | (go_simp; done) | (go_simp; omega)) rfl rfl cx7 hxc6.out ?_) | ((with_reducible show wpList _ _ _ (Oper.mk _ (Op.load _ _) _ _ _ _ :: _) _ _); refine wl_ldAw (s := shExamples) (cs := c9_0) (by first | rfl | (go_simp; done) | (go_simp; omega)) rfl rfl cx10 hxc9_0.out ?_))
  refine (eqExamples_ok c9_0 c4_0 R0 _ (o9_0.rep) (o4_0.rep) hbr0).mono ?_
  rintro e w19 ⟨rfl, e19⟩
  replace e0 := e0.trans (e19)
  replace s := Nat.le_trans s (Ext.size (e19))
  replace c0 := c0.ext (e19)
  replace o2 := o2.ext (e19)
  replace o3 := o3.ext (e19)
  replace o4_0 := o4_0.ext (e19)
  replace cx5 := cx5.ext (e19)
  replace cx7 := cx7.ext (e19)
  replace o9_0 := o9_0.ext (e19)
  replace cx10 := cx10.ext (e19)
  replace o15 := o15.ext (e19)
  replace o17m := o17m.ext (e19)
  replace o18m := o18m.ext (e19)
  replace r0 := h0.ext e0
  replace r1 := h1.ext e0
  clear e19
  go_wp2_with (first | ((with_reducible show wpList _ _ _ (Oper.mk _ (Op.load _ _) _ _ _ _ :: _) _ _); refine wl_ldAw (s := shExamples) (cs := cs0) (by first | rfl | (go_simp; done) | (go_simp; omega)) rfl rfl c0 hl0.out ?_) | ((with_reducible show wpList _ _ _ (Oper.mk _ (Op.load _ _) _ _ _ _ :: _) _ _); refine wl_ldAw (s := shExamples) (cs := c4_0) (by first | rfl | (go_simp; done) | (go_simp; omega)) rfl rfl cx5 hxc4_0.out ?_) | ((with_reducible show wpList _ _ _ (Oper.mk _ (Op.load _ _) _ _ _ _ :: _) _ _); refine wl_ldAw (s := shExamples) (cs := c6) (by first | rfl | (go_simp; done) | (go_simp; omega)) rfl rfl cx7 hxc6.out ?_) | ((with_reducible show wpList _ _ _ (Oper.mk _ (Op.load _ _) _ _ _ _ :: _) _ _); refine wl_ldAw (s := shExamples) (cs := c9_0) (by first | rfl | (go_simp; done) | (go_simp; omega)) rfl rfl cx10 hxc9_0.out ?_))
  have mb20 := mkV_bd shExamples (by decide) R0 1
  refine (markExamples_ok c9_0 R0 b9_0 1 _ o9_0 nd9_0 (by omega) (by omega)).mono ?_
  rintro e w20 ⟨rfl, o20m, ch20⟩
  replace e0 := e0.chg ch20 fun b hb => by have := lo9_0 b hb; omega
  replace s := Nat.le_trans s (Chg.size ch20)
  replace c0 := Cs.chgB c0 ch20 (Cs.blkLt c0 (by rw [hl0.out]; decide)) (fun h => by have := lo9_0 _ h; have := lt9_0 _ h; omega)
  replace o2 := o2.chg ch20 (fun b hb h => by have := lo2 b hb; have := lt2 b hb; have := lo9_0 b h; have := lt9_0 b h; omega)
  replace o3 := o3.chg ch20 (fun b hb h => by have := lo3 b hb; have := lt3 b hb; have := lo9_0 b h; have := lt9_0 b h; omega)
  replace o4_0 := o4_0.chg ch20 (fun b hb h => by have := lo4_0 b hb; have := lt4_0 b hb; have := lo9_0 b h; have := lt9_0 b h; omega)
  replace cx5 := Cs.chgB cx5 ch20 (Cs.blkLt cx5 (by rw [hxc4_0.out]; decide)) (fun h => by have := lo9_0 _ h; have := lt9_0 _ h; omega)
  replace cx7 := Cs.chgB cx7 ch20 (Cs.blkLt cx7 (by rw [hxc6.out]; decide)) (fun h => by have := lo9_0 _ h; have := lt9_0 _ h; omega)
  replace cx10 := Cs.chgB cx10 ch20 (Cs.blkLt cx10 (by rw [hxc9_0.out]; decide)) (fun h => by have := lo9_0 _ h; have := lt9_0 _ h; omega)
  replace o15 := o15.chg ch20 (fun b hb h => by have := lo15 b hb; have := lt15 b hb; have := lo9_0 b h; have := lt9_0 b h; omega)
  replace o17m := o17m.chg ch20 (fun b hb h => by have := lo6 b hb; have := lt6 b hb; have := lo9_0 b h; have := lt9_0 b h; omega)
  replace o18m := o18m.chg ch20 (fun b hb h => by have := lo8 b hb; have := lt8 b hb; have := lo9_0 b h; have := lt9_0 b h; omega)
  replace r0 := h0.ext e0
  replace r1 := h1.ext e0
  clear o9_0 ch20
  obtain ⟨k20, hk20⟩ : ∃ k, k = (mkV shExamples R0 1).2 := ⟨_, rfl⟩
  rw [← hk20] at mb20 ⊢
  have HK20 := hid hk20
  clear hk20
  go_wp2_with (first | ((with_reducible show wpList _ _ _ (Oper.mk _ (Op.load _ _) _ _ _ _ :: _) _ _); refine wl_ldAw (s := shExamples) (cs := cs0) (by first | rfl | (go_simp; done) | (go_simp; omega)) rfl rfl c0 hl0.out ?_) | ((with_reducible show wpList _ _ _ (Oper.mk _ (Op.load _ _) _ _ _ _ :: _) _ _); refine wl_ldAw (s := shExamples) (cs := c4_0) (by first | rfl | (go_simp; done) | (go_simp; omega)) rfl rfl cx5 hxc4_0.out ?_) | ((with_reducible show wpList _ _ _ (Oper.mk _ (Op.load _ _) _ _ _ _ :: _) _ _); refine wl_ldAw (s := shExamples) (cs := c6) (by first | rfl | (go_simp; done) | (go_simp; omega)) rfl rfl cx7 hxc6.out ?_) | ((with_reducible show wpList _ _ _ (Oper.mk _ (Op.load _ _) _ _ _ _ :: _) _ _); refine wl_ldAw (s := shExamples) (cs := c9_0) (by first | rfl | (go_simp; done) | (go_simp; omega)) rfl rfl cx10 hxc9_0.out ?_))
  refine (heldExamples_ok c9_0 R0 1 _ o20m.rep (by omega) (by omega)).mono ?_
  rintro e w21 ⟨rfl, e21⟩
  replace e0 := e0.trans (e21)
  replace s := Nat.le_trans s (Ext.size (e21))
  replace c0 := c0.ext (e21)
  replace o2 := o2.ext (e21)
  replace o3 := o3.ext (e21)
  replace o4_0 := o4_0.ext (e21)
  replace cx5 := cx5.ext (e21)
  replace cx7 := cx7.ext (e21)
  replace cx10 := cx10.ext (e21)
  replace o15 := o15.ext (e21)
  replace o17m := o17m.ext (e21)
  replace o18m := o18m.ext (e21)
  replace o20m := o20m.ext (e21)
  replace r0 := h0.ext e0
  replace r1 := h1.ext e0
  clear e21
  rw [← HK20.out]
  go_wp2_with (first | ((with_reducible show wpList _ _ _ (Oper.mk _ (Op.load _ _) _ _ _ _ :: _) _ _); refine wl_ldAw (s := shExamples) (cs := cs0) (by first | rfl | (go_simp; done) | (go_simp; omega)) rfl rfl c0 hl0.out ?_) | ((with_reducible show wpList _ _ _ (Oper.mk _ (Op.load _ _) _ _ _ _ :: _) _ _); refine wl_ldAw (s := shExamples) (cs := c4_0) (by first | rfl | (go_simp; done) | (go_simp; omega)) rfl rfl cx5 hxc4_0.out ?_) | ((with_reducible show wpList _ _ _ (Oper.mk _ (Op.load _ _) _ _ _ _ :: _) _ _); refine wl_ldAw (s := shExamples) (cs := c6) (by first | rfl | (go_simp; done) | (go_simp; omega)) rfl rfl cx7 hxc6.out ?_) | ((with_reducible show wpList _ _ _ (Oper.mk _ (Op.load _ _) _ _ _ _ :: _) _ _); refine wl_ldAw (s := shExamples) (cs := c9_0) (by first | rfl | (go_simp; done) | (go_simp; omega)) rfl rfl cx10 hxc9_0.out ?_))
  refine (toExamples_ok cs0 D0 _ r0 hb0).mono ?_
  rintro e w22 ⟨c22, b22, rfl, o22, nd22, lo22, e22⟩
  have m22 := s
  have sz22 := Ext.size e22
  have lt22 := Own.lt o22
  replace e0 := e0.trans (e22)
  replace s := Nat.le_trans s (Ext.size (e22))
  replace c0 := c0.ext (e22)
  replace o2 := o2.ext (e22)
  replace o3 := o3.ext (e22)
  replace o4_0 := o4_0.ext (e22)
  replace cx5 := cx5.ext (e22)
  replace cx7 := cx7.ext (e22)
  replace cx10 := cx10.ext (e22)
  replace o15 := o15.ext (e22)
  replace o17m := o17m.ext (e22)
  replace o18m := o18m.ext (e22)
  replace o20m := o20m.ext (e22)
  replace r0 := h0.ext e0
  replace r1 := h1.ext e0
  clear e22
  obtain ⟨N22, hN22⟩ : ∃ N, N = w22.heap.size := ⟨_, rfl⟩
  rw [← hN22] at sz22 lt22
  have s := Nat.le_of_eq hN22
  have hxc22 := hid o22.rep.size
  have hyc22 := hid o22.rep.one
  go_wp2_with (first | ((with_reducible show wpList _ _ _ (Oper.mk _ (Op.load _ _) _ _ _ _ :: _) _ _); refine wl_ldAw (s := shExamples) (cs := cs0) (by first | rfl | (go_simp; done) | (go_simp; omega)) rfl rfl c0 hl0.out ?_) | ((with_reducible show wpList _ _ _ (Oper.mk _ (Op.load _ _) _ _ _ _ :: _) _ _); refine wl_ldAw (s := shExamples) (cs := c4_0) (by first | rfl | (go_simp; done) | (go_simp; omega)) rfl rfl cx5 hxc4_0.out ?_) | ((with_reducible show wpList _ _ _ (Oper.mk _ (Op.load _ _) _ _ _ _ :: _) _ _); refine wl_ldAw (s := shExamples) (cs := c6) (by first | rfl | (go_simp; done) | (go_simp; omega)) rfl rfl cx7 hxc6.out ?_) | ((with_reducible show wpList _ _ _ (Oper.mk _ (Op.load _ _) _ _ _ _ :: _) _ _); refine wl_ldAw (s := shExamples) (cs := c9_0) (by first | rfl | (go_simp; done) | (go_simp; omega)) rfl rfl cx10 hxc9_0.out ?_))
  refine (toInt64S_ok [.slice p1 (List.length D1) q1] D1 _ r1 hb1).mono ?_
  rintro e w23 ⟨c23, b23, rfl, o23, nd23, lo23, e23⟩
  have m23 := s
  have sz23 := Ext.size e23
  have lt23 := Own.lt o23
  replace e0 := e0.trans (e23)
  replace s := Nat.le_trans s (Ext.size (e23))
  replace c0 := c0.ext (e23)
  replace o2 := o2.ext (e23)
  replace o3 := o3.ext (e23)
  replace o4_0 := o4_0.ext (e23)
  replace cx5 := cx5.ext (e23)
  replace cx7 := cx7.ext (e23)
  replace cx10 := cx10.ext (e23)
  replace o15 := o15.ext (e23)
  replace o17m := o17m.ext (e23)
  replace o18m := o18m.ext (e23)
  replace o20m := o20m.ext (e23)
  replace o22 := o22.ext (e23)
  replace r0 := h0.ext e0
  replace r1 := h1.ext e0
  clear e23
  obtain ⟨N23, hN23⟩ : ∃ N, N = w23.heap.size := ⟨_, rfl⟩
  rw [← hN23] at sz23 lt23
  have s := Nat.le_of_eq hN23
  obtain ⟨p_c23, q_c23, rfl, hm_c23⟩ := rep_val o23.rep
  simp only [ofCs, Sh.agg, List.headD_cons, Bool.false_eq_true, if_false]
  go_wp2_with (first | ((with_reducible show wpList _ _ _ (Oper.mk _ (Op.load _ _) _ _ _ _ :: _) _ _); refine wl_ldAw (s := shExamples) (cs := cs0) (by first | rfl | (go_simp; done) | (go_simp; omega)) rfl rfl c0 hl0.out ?_) | ((with_reducible show wpList _ _ _ (Oper.mk _ (Op.load _ _) _ _ _ _ :: _) _ _); refine wl_ldAw (s := shExamples) (cs := c4_0) (by first | rfl | (go_simp; done) | (go_simp; omega)) rfl rfl cx5 hxc4_0.out ?_) | ((with_reducible show wpList _ _ _ (Oper.mk _ (Op.load _ _) _ _ _ _ :: _) _ _); refine wl_ldAw (s := shExamples) (cs := c6) (by first | rfl | (go_simp; done) | (go_simp; omega)) rfl rfl cx7 hxc6.out ?_) | ((with_reducible show wpList _ _ _ (Oper.mk _ (Op.load _ _) _ _ _ _ :: _) _ _); refine wl_ldAw (s := shExamples) (cs := c9_0) (by first | rfl | (go_simp; done) | (go_simp; omega)) rfl rfl cx10 hxc9_0.out ?_))
  refine (K.out c22 [.slice p_c23 (List.length D1) q_c23] _ o22.rep o23.rep f0 f1).mono ?_
  rintro e w24 ⟨c24_0, b24_0, rfl, o24_0, nd24_0, lo24_0, _, e24⟩
  dsimp only at o24_0
  have m24 := s
  have sz24 := Ext.size e24
  have lt24_0 := Own.lt o24_0
  replace e0 := e0.trans (e24)
  replace s := Nat.le_trans s (Ext.size (e24))
  replace c0 := c0.ext (e24)
  replace o2 := o2.ext (e24)
  replace o3 := o3.ext (e24)
  replace o4_0 := o4_0.ext (e24)
  replace cx5 := cx5.ext (e24)
  replace cx7 := cx7.ext (e24)
  replace cx10 := cx10.ext (e24)
  replace o15 := o15.ext (e24)
  replace o17m := o17m.ext (e24)
  replace o18m := o18m.ext (e24)
  replace o20m := o20m.ext (e24)
  replace o22 := o22.ext (e24)
  replace o23 := o23.ext (e24)
  replace r0 := h0.ext e0
  replace r1 := h1.ext e0
  clear e24
  obtain ⟨N24, hN24⟩ : ∃ N, N = w24.heap.size := ⟨_, rfl⟩
  rw [← hN24] at sz24 lt24_0
  have s := Nat.le_of_eq hN24
  have hxc24_0 := hid o24_0.rep.size
  have hyc24_0 := hid o24_0.rep.one
  go_wp2_with (first | ((with_reducible show wpList _ _ _ (Oper.mk _ (Op.load _ _) _ _ _ _ :: _) _ _); refine wl_ldAw (s := shExamples) (cs := cs0) (by first | rfl | (go_simp; done) | (go_simp; omega)) rfl rfl c0 hl0.out ?_) | ((with_reducible show wpList _ _ _ (Oper.mk _ (Op.load _ _) _ _ _ _ :: _) _ _); refine wl_ldAw (s := shExamples) (cs := c4_0) (by first | rfl | (go_simp; done) | (go_simp; omega)) rfl rfl cx5 hxc4_0.out ?_) | ((with_reducible show wpList _ _ _ (Oper.mk _ (Op.load _ _) _ _ _ _ :: _) _ _); refine wl_ldAw (s := shExamples) (cs := c6) (by first | rfl | (go_simp; done) | (go_simp; omega)) rfl rfl cx7 hxc6.out ?_) | ((with_reducible show wpList _ _ _ (Oper.mk _ (Op.load _ _) _ _ _ _ :: _) _ _); refine wl_ldAw (s := shExamples) (cs := c9_0) (by first | rfl | (go_simp; done) | (go_simp; omega)) rfl rfl cx10 hxc9_0.out ?_) | ((with_reducible show wpList _ _ _ (Oper.mk _ (Op.store _ _ _) _ _ _ _ :: _) _ _); refine wl_stA (s := shExamples) (cs := c24_0) rfl rfl rfl rfl (by first | exact heap_alloc_new _ _ | exact heap_alloc_old2 _ _ _) rfl hxc24_0.out hyc24_0.out (by decide) ?_; intro wc25 cx25 ch25; have E25 := (Ext.of_chg1 ch25); have mc25 := s; replace e0 := e0.trans (E25); replace s := Nat.le_trans s (Ext.size (E25)); replace c0 := c0.ext (E25); replace o2 := o2.ext (E25); replace o3 := o3.ext (E25); replace o4_0 := o4_0.ext (E25); replace cx5 := cx5.ext (E25); replace cx7 := cx7.ext (E25); replace cx10 := cx10.ext (E25); replace o15 := o15.ext (E25); replace o17m := o17m.ext (E25); replace o18m := o18m.ext (E25); replace o20m := o20m.ext (E25); replace o22 := o22.ext (E25); replace o23 := o23.ext (E25); replace o24_0 := o24_0.ext (E25); replace r0 := h0.ext e0; replace r1 := h1.ext e0; have vl25 := Cs.blkLt cx25 (by rw [hxc24_0.out]; decide); obtain ⟨Nc25, hNc25⟩ : ∃ N, N = wc25.heap.size := ⟨_, rfl⟩; rw [← hNc25] at vl25; have s := Nat.le_of_eq hNc25; clear E25 ch25) | ((with_reducible show wpList _ _ _ (Oper.mk _ (Op.load _ _) _ _ _ _ :: _) _ _); refine wl_ldAw (s := shExamples) (cs := c24_0) (by first | rfl | (go_simp; done) | (go_simp; omega)) rfl rfl cx25 hxc24_0.out ?_))
  refine (eqExamples_ok c24_0 c4_0 R0 _ (o24_0.rep) (o4_0.rep) hbr0).mono ?_
  rintro e w26 ⟨rfl, e26⟩
  replace e0 := e0.trans (e26)
  replace s := Nat.le_trans s (Ext.size (e26))
  replace c0 := c0.ext (e26)
  replace o2 := o2.ext (e26)
  replace o3 := o3.ext (e26)
  replace o4_0 := o4_0.ext (e26)
  replace cx5 := cx5.ext (e26)
  replace cx7 := cx7.ext (e26)
  replace cx10 := cx10.ext (e26)
  replace o15 := o15.ext (e26)
  replace o17m := o17m.ext (e26)
  replace o18m := o18m.ext (e26)
  replace o20m := o20m.ext (e26)
  replace o22 := o22.ext (e26)
  replace o23 := o23.ext (e26)
  replace o24_0 := o24_0.ext (e26)
  replace cx25 := cx25.ext (e26)
  replace r0 := h0.ext e0
  replace r1 := h1.ext e0
  clear e26
  go_wp2_with (first | ((with_reducible show wpList _ _ _ (Oper.mk _ (Op.load _ _) _ _ _ _ :: _) _ _); refine wl_ldAw (s := shExamples) (cs := cs0) (by first | rfl | (go_simp; done) | (go_simp; omega)) rfl rfl c0 hl0.out ?_) | ((with_reducible show wpList _ _ _ (Oper.mk _ (Op.load _ _) _ _ _ _ :: _) _ _); refine wl_ldAw (s := shExamples) (cs := c4_0) (by first | rfl | (go_simp; done) | (go_simp; omega)) rfl rfl cx5 hxc4_0.out ?_) | ((with_reducible show wpList _ _ _ (Oper.mk _ (Op.load _ _) _ _ _ _ :: _) _ _); refine wl_ldAw (s := shExamples) (cs := c6) (by first | rfl | (go_simp; done) | (go_simp; omega)) rfl rfl cx7 hxc6.out ?_) | ((with_reducible show wpList _ _ _ (Oper.mk _ (Op.load _ _) _ _ _ _ :: _) _ _); refine wl_ldAw (s := shExamples) (cs := c9_0) (by first | rfl | (go_simp; done) | (go_simp; omega)) rfl rfl cx10 hxc9_0.out ?_) | ((with_reducible show wpList _ _ _ (Oper.mk _ (Op.load _ _) _ _ _ _ :: _) _ _); refine wl_ldAw (s := shExamples) (cs := c24_0) (by first | rfl | (go_simp; done) | (go_simp; omega)) rfl rfl cx25 hxc24_0.out ?_))
  refine (heldExamples_ok c9_0 R0 1 _ o20m.rep (by omega) (by omega)).mono ?_
  rintro e w27 ⟨rfl, e27⟩
  replace e0 := e0.trans (e27)
  replace s := Nat.le_trans s (Ext.size (e27))
  replace c0 := c0.ext (e27)
  replace o2 := o2.ext (e27)
  replace o3 := o3.ext (e27)
  replace o4_0 := o4_0.ext (e27)
  replace cx5 := cx5.ext (e27)
  replace cx7 := cx7.ext (e27)
  replace cx10 := cx10.ext (e27)
  replace o15 := o15.ext (e27)
  replace o17m := o17m.ext (e27)
  replace o18m := o18m.ext (e27)
  replace o20m := o20m.ext (e27)
  replace o22 := o22.ext (e27)
  replace o23 := o23.ext (e27)
  replace o24_0 := o24_0.ext (e27)
  replace cx25 := cx25.ext (e27)
  replace r0 := h0.ext e0
  replace r1 := h1.ext e0
  clear e27
  rw [← HK20.out]
  go_wp2
  go_ret
  exact ⟨rfl, e0⟩
end Go.Proofs.Ytbdcjhhphkckcaa.lPickRows
