/- The law FnExactSplitModel answers true at every input. -/
import Derived.Test.YtangnigplachdaaSpl
import Derived.Test.YtangnigplachdaaKb
import Derived.Test.YtangnigplachdaaKf
import Derived.Test.YtangnigplachdaaFldW
namespace Go.Proofs.Ytangnigplachdaa.lSplitModel
set_option linter.unusedSimpArgs false
set_option linter.unusedVariables false
open Go.RowKit

set_option maxRecDepth 100000 in
set_option maxHeartbeats 1000000 in
theorem law_any (cs0 : List Value) (D0 : Sh.T shModel) (a1 : Int) (w : World) (h0 : Rep w shModel cs0 D0) (f0 : Fit shModel D0) (f1 : Fit .int a1) : Calls Try.prog 11 #[ofCs shModel cs0, .int .i64 a1] w fun e w' => e = .returned (.bool true) ∧ Ext w w' := by
  have hl0 := hid h0.size
  have ho0 := hid h0.one
  have e0 := Ext.refl w
  obtain ⟨N0, hN0⟩ : ∃ N0, N0 = w.heap.size := ⟨_, rfl⟩
  have s := Nat.le_of_eq hN0
  have r0 := h0
  go_enter Try.func11, Try.ntmps11
  go_wp2_with (first | ((with_reducible show wpList _ _ _ (Oper.mk _ (Op.box _ _) _ _ _ _ :: _) _ _); refine wl_box (s := shModel) (cs := cs0) rfl rfl rfl hl0.out ho0.out ?_; intro b0 v0 g0 vv0 c0; have mb0 := Nat.le_trans s vv0; replace e0 := e0.trans (g0); replace s := Nat.le_trans s (Ext.size (g0)); replace r0 := h0.ext e0; have vl0 := Cs.blkLt c0 (by rw [hl0.out]; decide); obtain ⟨Nb0, hNb0⟩ : ∃ N, N = v0.heap.size := ⟨_, rfl⟩; rw [← hNb0] at vl0; have s := Nat.le_of_eq hNb0) | ((with_reducible show wpList _ _ _ (Oper.mk _ (Op.load _ _) _ _ _ _ :: _) _ _); refine wl_ldAw (s := shModel) (cs := cs0) (by first | rfl | (go_simp; done) | (go_simp; omega)) rfl rfl c0 hl0.out ?_))
  refine (szModel_ok cs0 D0 1048576 _ r0 (by omega) (by omega)).mono ?_
  rintro e w1 ⟨⟨s1, rfl, hs1⟩, e1⟩
  replace e0 := e0.trans (e1)
  replace s := Nat.le_trans s (Ext.size (e1))
  replace c0 := c0.ext (e1)
  replace r0 := h0.ext e0
  clear e1
  by_cases hn1 : s1 < 0
  · go_wp2
    go_ret
    exact ⟨rfl, e0⟩
  have hb0 : tot shModel D0 ≤ 1048576 := by rcases hs1 with h | h; exact absurd h hn1; omega
  have hz1 : 0 ≤ s1 := by omega
  have ht1 : s1 ≤ 1048576 := by rcases hs1 with h | h; exact absurd h hn1; omega
  clear hs1
  go_wp2_with (first | ((with_reducible show wpList _ _ _ (Oper.mk _ (Op.load _ _) _ _ _ _ :: _) _ _); refine wl_ldAw (s := shModel) (cs := cs0) (by first | rfl | (go_simp; done) | (go_simp; omega)) rfl rfl c0 hl0.out ?_))
  refine (toModel_ok cs0 D0 _ r0 hb0).mono ?_
  rintro e w2 ⟨c2, b2, rfl, o2, nd2, lo2, e2⟩
  have m2 := s
  have sz2 := Ext.size e2
  have lt2 := Own.lt o2
  replace e0 := e0.trans (e2)
  replace s := Nat.le_trans s (Ext.size (e2))
  replace c0 := c0.ext (e2)
  replace r0 := h0.ext e0
  clear e2
  obtain ⟨N2, hN2⟩ : ∃ N, N = w2.heap.size := ⟨_, rfl⟩
  rw [← hN2] at sz2 lt2
  have s := Nat.le_of_eq hN2
  have hxc2 := hid o2.rep.size
  have hyc2 := hid o2.rep.one
  go_wp2_with (first | ((with_reducible show wpList _ _ _ (Oper.mk _ (Op.load _ _) _ _ _ _ :: _) _ _); refine wl_ldAw (s := shModel) (cs := cs0) (by first | rfl | (go_simp; done) | (go_simp; omega)) rfl rfl c0 hl0.out ?_))
  refine (spec_ok c2 D0 a1 _ o2.rep f0 f1).mono ?_
  rintro e w3 ⟨c3_0, b3_0, c3_1, b3_1, rfl, o3_0, o3_1, nda3, loa3, e3⟩
  have hbr0 := res_bd D0 a1 hb0 f0 f1
  have hbr1 := res_bd1 D0 a1 hb0 f0 f1
  have K := hid (fun y0 W => impl_ok y0 D0 a1 W)
  generalize res D0 a1 = r at *
  obtain ⟨R0, R1, R2⟩ := r
  dsimp only at hbr0 o3_0 hbr1 o3_1
  obtain ⟨nd3_0, nd3_1, ap3, aq3⟩ := nodup_split nda3
  have lo3_0 := fun b (hb : b ∈ b3_0) => loa3 b (List.mem_append.2 (.inl hb))
  have lo3_1 := fun b (hb : b ∈ b3_1) => loa3 b (List.mem_append.2 (.inr hb))
  clear loa3 nda3
  have m3 := s
  have sz3 := Ext.size e3
  have lt3_0 := Own.lt o3_0
  have lt3_1 := Own.lt o3_1
  replace e0 := e0.trans (e3)
  replace s := Nat.le_trans s (Ext.size (e3))
  replace c0 := c0.ext (e3)
  replace o2 := o2.ext (e3)
  replace r0 := h0.ext e0
  clear e3
  obtain ⟨N3, hN3⟩ : ∃ N, N = w3.heap.size := ⟨_, rfl⟩
  rw [← hN3] at sz3 lt3_0 lt3_1
  have s := Nat.le_of_eq hN3
  have hxc3_0 := hid o3_0.rep.size
  have hyc3_0 := hid o3_0.rep.one
  have hxc3_1 := hid o3_1.rep.size
  have hyc3_1 := hid o3_1.rep.one
  go_wp2_with (first | ((with_reducible show wpList _ _ _ (Oper.mk _ (Op.load _ _) _ _ _ _ :: _) _ _); refine wl_ldAw (s := shModel) (cs := cs0) (by first | rfl | (go_simp; done) | (go_simp; omega)) rfl rfl c0 hl0.out ?_) | ((with_reducible show wpList _ _ _ (Oper.mk _ (Op.store _ _ _) _ _ _ _ :: _) _ _); refine wl_stA (s := shModel) (cs := c3_0) rfl rfl rfl rfl (heap_alloc_old2 _ _ _) rfl hxc3_0.out hyc3_0.out (by decide) ?_; intro wc4 cx4 ch4; have hz4 := heap_second ch4) | ((with_reducible show wpList _ _ _ (Oper.mk _ (Op.load _ _) _ _ _ _ :: _) _ _); refine wl_ldAw (s := shModel) (cs := c3_0) (by first | rfl | (go_simp; done) | (go_simp; omega)) rfl rfl cx4 hxc3_0.out ?_) | ((with_reducible show wpList _ _ _ (Oper.mk _ (Op.store _ _ _) _ _ _ _ :: _) _ _); refine wl_stA (s := shModel) (cs := c3_1) rfl rfl rfl rfl hz4 rfl hxc3_1.out hyc3_1.out (by decide) ?_; intro wc5 cx5 ch5; have E5 := Ext.of_chg22 ch4 ch5; have mc5 := s; replace cx4 := cx4.first2 ch4 ch5; replace e0 := e0.trans (E5); replace s := Nat.le_trans s (Ext.size (E5)); replace c0 := c0.ext (E5); replace o2 := o2.ext (E5); replace o3_0 := o3_0.ext (E5); replace o3_1 := o3_1.ext (E5); replace r0 := h0.ext e0; have vl4 := Cs.blkLt cx4 (by rw [hxc3_0.out]; decide); have vl5 := Cs.blkLt cx5 (by rw [hxc3_1.out]; decide); obtain ⟨Nc5, hNc5⟩ : ∃ N, N = wc5.heap.size := ⟨_, rfl⟩; rw [← hNc5] at vl4 vl5; have s := Nat.le_of_eq hNc5; clear hz4 E5 ch4 ch5) | ((with_reducible show wpList _ _ _ (Oper.mk _ (Op.load _ _) _ _ _ _ :: _) _ _); refine wl_ldAw (s := shModel) (cs := c3_1) (by first | rfl | (go_simp; done) | (go_simp; omega)) rfl rfl cx5 hxc3_1.out ?_))
  refine (toModel_ok cs0 D0 _ r0 hb0).mono ?_
  rintro e w6 ⟨c6, b6, rfl, o6, nd6, lo6, e6⟩
  have m6 := s
  have sz6 := Ext.size e6
  have lt6 := Own.lt o6
  replace e0 := e0.trans (e6)
  replace s := Nat.le_trans s (Ext.size (e6))
  replace c0 := c0.ext (e6)
  replace o2 := o2.ext (e6)
  replace o3_0 := o3_0.ext (e6)
  replace o3_1 := o3_1.ext (e6)
  replace cx4 := cx4.ext (e6)
  replace cx5 := cx5.ext (e6)
  replace r0 := h0.ext e0
  clear e6
  obtain ⟨N6, hN6⟩ : ∃ N, N = w6.heap.size := ⟨_, rfl⟩
  rw [← hN6] at sz6 lt6
  have s := Nat.le_of_eq hN6
  have hxc6 := hid o6.rep.size
  have hyc6 := hid o6.rep.one
  go_wp2_with (first | ((with_reducible show wpList _ _ _ (Oper.mk _ (Op.load _ _) _ _ _ _ :: _) _ _); refine wl_ldAw (s := shModel) (cs := cs0) (by first | rfl | (go_simp; done) | (go_simp; omega)) rfl rfl c0 hl0.out ?_) | ((with_reducible show wpList _ _ _ (Oper.mk _ (Op.load _ _) _ _ _ _ :: _) _ _); refine wl_ldAw (s := shModel) (cs := c3_0) (by first | rfl | (go_simp; done) | (go_simp; omega)) rfl rfl cx4 hxc3_0.out ?_) | ((with_reducible show wpList _ _ _ (Oper.mk _ (Op.load _ _) _ _ _ _ :: _) _ _); refine wl_ldAw (s := shModel) (cs := c3_1) (by first | rfl | (go_simp; done) | (go_simp; omega)) rfl rfl cx5 hxc3_1.out ?_) | ((with_reducible show wpList _ _ _ (Oper.mk _ (Op.store _ _ _) _ _ _ _ :: _) _ _); refine wl_stA (s := shModel) (cs := c6) rfl rfl rfl rfl (by first | exact heap_alloc_new _ _ | exact heap_alloc_old2 _ _ _) rfl hxc6.out hyc6.out (by decide) ?_; intro wc7 cx7 ch7; have E7 := (Ext.of_chg1 ch7); have mc7 := s; replace e0 := e0.trans (E7); replace s := Nat.le_trans s (Ext.size (E7)); replace c0 := c0.ext (E7); replace o2 := o2.ext (E7); replace o3_0 := o3_0.ext (E7); replace o3_1 := o3_1.ext (E7); replace cx4 := cx4.ext (E7); replace cx5 := cx5.ext (E7); replace o6 := o6.ext (E7); replace r0 := h0.ext e0; have vl7 := Cs.blkLt cx7 (by rw [hxc6.out]; decide); obtain ⟨Nc7, hNc7⟩ : ∃ N, N = wc7.heap.size := ⟨_, rfl⟩; rw [← hNc7] at vl7; have s := Nat.le_of_eq hNc7; clear E7 ch7) | ((with_reducible show wpList _ _ _ (Oper.mk _ (Op.load _ _) _ _ _ _ :: _) _ _); refine wl_ldAw (s := shModel) (cs := c6) (by first | rfl | (go_simp; done) | (go_simp; omega)) rfl rfl cx7 hxc6.out ?_))
  refine (K.out c6 _ o6.rep f0 f1).mono ?_
  rintro e w8 ⟨c8_0, b8_0, c8_1, b8_1, rfl, o8_0, o8_1, nda8, loa8, e8⟩
  dsimp only at o8_0 o8_1
  obtain ⟨nd8_0, nd8_1, ap8, aq8⟩ := nodup_split nda8
  have lo8_0 := fun b (hb : b ∈ b8_0) => loa8 b (List.mem_append.2 (.inl hb))
  have lo8_1 := fun b (hb : b ∈ b8_1) => loa8 b (List.mem_append.2 (.inr hb))
  clear loa8 nda8
  have m8 := s
  have sz8 := Ext.size e8
  have lt8_0 := Own.lt o8_0
  have lt8_1 := Own.lt o8_1
  replace e0 := e0.trans (e8)
  replace s := Nat.le_trans s (Ext.size (e8))
  replace c0 := c0.ext (e8)
  replace o2 := o2.ext (e8)
  replace o3_0 := o3_0.ext (e8)
  replace o3_1 := o3_1.ext (e8)
  replace cx4 := cx4.ext (e8)
  replace cx5 := cx5.ext (e8)
  replace o6 := o6.ext (e8)
  replace cx7 := cx7.ext (e8)
  replace r0 := h0.ext e0
  clear e8
  obtain ⟨N8, hN8⟩ : ∃ N, N = w8.heap.size := ⟨_, rfl⟩
  rw [← hN8] at sz8 lt8_0 lt8_1
  have s := Nat.le_of_eq hN8
  have hxc8_0 := hid o8_0.rep.size
  have hyc8_0 := hid o8_0.rep.one
  have hxc8_1 := hid o8_1.rep.size
  have hyc8_1 := hid o8_1.rep.one
  go_wp2_with (first | ((with_reducible show wpList _ _ _ (Oper.mk _ (Op.load _ _) _ _ _ _ :: _) _ _); refine wl_ldAw (s := shModel) (cs := cs0) (by first | rfl | (go_simp; done) | (go_simp; omega)) rfl rfl c0 hl0.out ?_) | ((with_reducible show wpList _ _ _ (Oper.mk _ (Op.load _ _) _ _ _ _ :: _) _ _); refine wl_ldAw (s := shModel) (cs := c3_0) (by first | rfl | (go_simp; done) | (go_simp; omega)) rfl rfl cx4 hxc3_0.out ?_) | ((with_reducible show wpList _ _ _ (Oper.mk _ (Op.load _ _) _ _ _ _ :: _) _ _); refine wl_ldAw (s := shModel) (cs := c3_1) (by first | rfl | (go_simp; done) | (go_simp; omega)) rfl rfl cx5 hxc3_1.out ?_) | ((with_reducible show wpList _ _ _ (Oper.mk _ (Op.load _ _) _ _ _ _ :: _) _ _); refine wl_ldAw (s := shModel) (cs := c6) (by first | rfl | (go_simp; done) | (go_simp; omega)) rfl rfl cx7 hxc6.out ?_) | ((with_reducible show wpList _ _ _ (Oper.mk _ (Op.store _ _ _) _ _ _ _ :: _) _ _); refine wl_stA (s := shModel) (cs := c8_0) rfl rfl rfl rfl (heap_alloc_old2 _ _ _) rfl hxc8_0.out hyc8_0.out (by decide) ?_; intro wc9 cx9 ch9; have hz9 := heap_second ch9) | ((with_reducible show wpList _ _ _ (Oper.mk _ (Op.load _ _) _ _ _ _ :: _) _ _); refine wl_ldAw (s := shModel) (cs := c8_0) (by first | rfl | (go_simp; done) | (go_simp; omega)) rfl rfl cx9 hxc8_0.out ?_) | ((with_reducible show wpList _ _ _ (Oper.mk _ (Op.store _ _ _) _ _ _ _ :: _) _ _); refine wl_stA (s := shModel) (cs := c8_1) rfl rfl rfl rfl hz9 rfl hxc8_1.out hyc8_1.out (by decide) ?_; intro wc10 cx10 ch10; have E10 := Ext.of_chg22 ch9 ch10; have mc10 := s; replace cx9 := cx9.first2 ch9 ch10; replace e0 := e0.trans (E10); replace s := Nat.le_trans s (Ext.size (E10)); replace c0 := c0.ext (E10); replace o2 := o2.ext (E10); replace o3_0 := o3_0.ext (E10); replace o3_1 := o3_1.ext (E10); replace cx4 := cx4.ext (E10); replace cx5 := cx5.ext (E10); replace o6 := o6.ext (E10); replace cx7 := cx7.ext (E10); replace o8_0 := o8_0.ext (E10); replace o8_1 := o8_1.ext (E10); replace r0 := h0.ext e0; have vl9 := Cs.blkLt cx9 (by rw [hxc8_0.out]; decide); have vl10 := Cs.blkLt cx10 (by rw [hxc8_1.out]; decide); obtain ⟨Nc10, hNc10⟩ : ∃ N, N = wc10.heap.size := ⟨_, rfl⟩; rw [← hNc10] at vl9 vl10; have s := Nat.le_of_eq hNc10; clear hz9 E10 ch9 ch10) | ((with_reducible show wpList _ _ _ (Oper.mk _ (Op.load _ _) _ _ _ _ :: _) _ _); refine wl_ldAw (s := shModel) (cs := c8_1) (by first | rfl | (go_simp; done) | (go_simp; omega)) rfl rfl cx10 hxc8_1.out ?_))
  refine (eqModel_ok c8_0 c3_0 R0 _ (o8_0.rep) (o3_0.rep) hbr0).mono ?_
  rintro e w11 ⟨rfl, e11⟩
  replace e0 := e0.trans (e11)
  replace s := Nat.le_trans s (Ext.size (e11))
  replace c0 := c0.ext (e11)
  replace o2 := o2.ext (e11)
  replace o3_0 := o3_0.ext (e11)
  replace o3_1 := o3_1.ext (e11)
  replace cx4 := cx4.ext (e11)
  replace cx5 := cx5.ext (e11)
  replace o6 := o6.ext (e11)
  replace cx7 := cx7.ext (e11)
  replace o8_0 := o8_0.ext (e11)
  replace o8_1 := o8_1.ext (e11)
  replace cx9 := cx9.ext (e11)
  replace cx10 := cx10.ext (e11)
  replace r0 := h0.ext e0
  clear e11
  go_wp2_with (first | ((with_reducible show wpList _ _ _ (Oper.mk _ (Op.load _ _) _ _ _ _ :: _) _ _); refine wl_ldAw (s := shModel) (cs := cs0) (by first | rfl | (go_simp; done) | (go_simp; omega)) rfl rfl c0 hl0.out ?_) | ((with_reducible show wpList _ _ _ (Oper.mk _ (Op.load _ _) _ _ _ _ :: _) _ _); refine wl_ldAw (s := shModel) (cs := c3_0) (by first | rfl | (go_simp; done) | (go_simp; omega)) rfl rfl cx4 hxc3_0.out ?_) | ((with_reducible show wpList _ _ _ (Oper.mk _ (Op.load _ _) _ _ _ _ :: _) _ _); refine wl_ldAw (s := shModel) (cs := c3_1) (by first | rfl | (go_simp; done) | (go_simp; omega)) rfl rfl cx5 hxc3_1.out ?_) | ((with_reducible show wpList _ _ _ (Oper.mk _ (Op.load _ _) _ _ _ _ :: _) _ _); refine wl_ldAw (s := shModel) (cs := c6) (by first | rfl | (go_simp; done) | (go_simp; omega)) rfl rfl cx7 hxc6.out ?_) | ((with_reducible show wpList _ _ _ (Oper.mk _ (Op.load _ _) _ _ _ _ :: _) _ _); refine wl_ldAw (s := shModel) (cs := c8_0) (by first | rfl | (go_simp; done) | (go_simp; omega)) rfl rfl cx9 hxc8_0.out ?_) | ((with_reducible show wpList _ _ _ (Oper.mk _ (Op.load _ _) _ _ _ _ :: _) _ _); refine wl_ldAw (s := shModel) (cs := c8_1) (by first | rfl | (go_simp; done) | (go_simp; omega)) rfl rfl cx10 hxc8_1.out ?_))
  refine (eqModel_ok c8_1 c3_1 R1 _ (o8_1.rep) (o3_1.rep) hbr1).mono ?_
  rintro e w12 ⟨rfl, e12⟩
  replace e0 := e0.trans (e12)
  replace s := Nat.le_trans s (Ext.size (e12))
  replace c0 := c0.ext (e12)
  replace o2 := o2.ext (e12)
  replace o3_0 := o3_0.ext (e12)
  replace o3_1 := o3_1.ext (e12)
  replace cx4 := cx4.ext (e12)
  replace cx5 := cx5.ext (e12)
  replace o6 := o6.ext (e12)
  replace cx7 := cx7.ext (e12)
  replace o8_0 := o8_0.ext (e12)
  replace o8_1 := o8_1.ext (e12)
  replace cx9 := cx9.ext (e12)
  replace cx10 := cx10.ext (e12)
  replace r0 := h0.ext e0
  clear e12
  go_wp2_with (first | ((with_reducible show wpList _ _ _ (Oper.mk _ (Op.load _ _) _ _ _ _ :: _) _ _); refine wl_ldAw (s := shModel) (cs := cs0) (by first | rfl | (go_simp; done) | (go_simp; omega)) rfl rfl c0 hl0.out ?_) | ((with_reducible show wpList _ _ _ (Oper.mk _ (Op.load _ _) _ _ _ _ :: _) _ _); refine wl_ldAw (s := shModel) (cs := c3_0) (by first | rfl | (go_simp; done) | (go_simp; omega)) rfl rfl cx4 hxc3_0.out ?_) | ((with_reducible show wpList _ _ _ (Oper.mk _ (Op.load _ _) _ _ _ _ :: _) _ _); refine wl_ldAw (s := shModel) (cs := c3_1) (by first | rfl | (go_simp; done) | (go_simp; omega)) rfl rfl cx5 hxc3_1.out ?_) | ((with_reducible show wpList _ _ _ (Oper.mk _ (Op.load _ _) _ _ _ _ :: _) _ _); refine wl_ldAw (s := shModel) (cs := c6) (by first | rfl | (go_simp; done) | (go_simp; omega)) rfl rfl cx7 hxc6.out ?_) | ((with_reducible show wpList _ _ _ (Oper.mk _ (Op.load _ _) _ _ _ _ :: _) _ _); refine wl_ldAw (s := shModel) (cs := c8_0) (by first | rfl | (go_simp; done) | (go_simp; omega)) rfl rfl cx9 hxc8_0.out ?_) | ((with_reducible show wpList _ _ _ (Oper.mk _ (Op.load _ _) _ _ _ _ :: _) _ _); refine wl_ldAw (s := shModel) (cs := c8_1) (by first | rfl | (go_simp; done) | (go_simp; omega)) rfl rfl cx10 hxc8_1.out ?_))
  replace e0 := e0.trans ((Ext.drew _))
  replace s := Nat.le_trans s (Ext.size ((Ext.drew _)))
  replace c0 := c0.ext ((Ext.drew _))
  replace o2 := o2.ext ((Ext.drew _))
  replace o3_0 := o3_0.ext ((Ext.drew _))
  replace o3_1 := o3_1.ext ((Ext.drew _))
  replace cx4 := cx4.ext ((Ext.drew _))
  replace cx5 := cx5.ext ((Ext.drew _))
  replace o6 := o6.ext ((Ext.drew _))
  replace cx7 := cx7.ext ((Ext.drew _))
  replace o8_0 := o8_0.ext ((Ext.drew _))
  replace o8_1 := o8_1.ext ((Ext.drew _))
  replace cx9 := cx9.ext ((Ext.drew _))
  replace cx10 := cx10.ext ((Ext.drew _))
  replace r0 := h0.ext e0
  obtain ⟨F13, hF13⟩ : ∃ F : Option Tmp → World → Value → Prop, F = fun d W u => (match d with | some 58 => ∃ cs', u = ofCs shModel cs' ∧ Rep W shModel cs' D0 | _ => True) := ⟨_, rfl⟩
  have HF13 := hid hF13
  clear hF13
  refine wp_region_xt 3 (F := F13) (by kernel_rfl) (by kernel_rfl) (by kernel_rfl) (by kernel_rfl) (by kernel_rfl) ?_
  intro wf hwf
  simp only [List.take_succ_cons, List.take_zero, List.drop_succ_cons, List.drop_zero]
  first | (refine x_ldA (s := shModel) (cs := cs0) rfl rfl rfl c0 hl0.out ?_) | (refine x_ldA (s := shModel) (cs := c3_0) rfl rfl rfl cx4 hxc3_0.out ?_) | (refine x_ldA (s := shModel) (cs := c3_1) rfl rfl rfl cx5 hxc3_1.out ?_) | (refine x_ldA (s := shModel) (cs := c6) rfl rfl rfl cx7 hxc6.out ?_) | (refine x_ldA (s := shModel) (cs := c8_0) rfl rfl rfl cx9 hxc8_0.out ?_) | (refine x_ldA (s := shModel) (cs := c8_1) rfl rfl rfl cx10 hxc8_1.out ?_)
  simp only [Act.put, ev_tmp, List.setIfInBounds_toArray, List.set_cons_succ, List.set_cons_zero, List.getD_cons_succ, List.getD_cons_zero]
  first | (refine x_ldA (s := shModel) (cs := cs0) rfl rfl rfl c0 hl0.out ?_) | (refine x_ldA (s := shModel) (cs := c3_0) rfl rfl rfl cx4 hxc3_0.out ?_) | (refine x_ldA (s := shModel) (cs := c3_1) rfl rfl rfl cx5 hxc3_1.out ?_) | (refine x_ldA (s := shModel) (cs := c6) rfl rfl rfl cx7 hxc6.out ?_) | (refine x_ldA (s := shModel) (cs := c8_0) rfl rfl rfl cx9 hxc8_0.out ?_) | (refine x_ldA (s := shModel) (cs := c8_1) rfl rfl rfl cx10 hxc8_1.out ?_)
  simp only [Act.put, ev_tmp, List.setIfInBounds_toArray, List.set_cons_succ, List.set_cons_zero, List.getD_cons_succ, List.getD_cons_zero]
  refine x_callf (f := 16) (args := #[ofCs shModel cs0]) rfl rfl Try.func16 rfl (by kernel_rfl) ?_ ?_ ?_; (focus (simp [Act.eval]; done)); (focus (intro w1 hw1; exact ((toModel_ok cs0 D0 w1 (r0.ext hw1) hb0).mono fun e w3 ⟨cs3, bs3, g1, g2, _, _, g3⟩ => ⟨_, g1, g3, by rw [HF13.out]; exact ⟨cs3, rfl, g2.rep⟩⟩))); rintro u w3 e3 e4 hu; simp only [HF13.out] at hu; obtain ⟨cz14, rfl, rz14⟩ := hu; replace rz14 := rz14.ext e4
  simp only [Act.put, ev_tmp, List.setIfInBounds_toArray, List.set_cons_succ, List.set_cons_zero, List.getD_cons_succ, List.getD_cons_zero]
  refine x_nil ?_
  replace e0 := e0.trans (hwf)
  replace s := Nat.le_trans s (Ext.size (hwf))
  replace c0 := c0.ext (hwf)
  replace o2 := o2.ext (hwf)
  replace o3_0 := o3_0.ext (hwf)
  replace o3_1 := o3_1.ext (hwf)
  replace cx4 := cx4.ext (hwf)
  replace cx5 := cx5.ext (hwf)
  replace o6 := o6.ext (hwf)
  replace cx7 := cx7.ext (hwf)
  replace o8_0 := o8_0.ext (hwf)
  replace o8_1 := o8_1.ext (hwf)
  replace cx9 := cx9.ext (hwf)
  replace cx10 := cx10.ext (hwf)
  replace r0 := h0.ext e0
  clear hwf
  go_wp2_with fail
  refine (eqModel_ok c6 cz14 D0 _ (o6.rep) (rz14) hb0).mono ?_
  rintro e w15 ⟨rfl, e15⟩
  replace e0 := e0.trans (e15)
  replace s := Nat.le_trans s (Ext.size (e15))
  replace c0 := c0.ext (e15)
  replace o2 := o2.ext (e15)
  replace o3_0 := o3_0.ext (e15)
  replace o3_1 := o3_1.ext (e15)
  replace cx4 := cx4.ext (e15)
  replace cx5 := cx5.ext (e15)
  replace o6 := o6.ext (e15)
  replace cx7 := cx7.ext (e15)
  replace o8_0 := o8_0.ext (e15)
  replace o8_1 := o8_1.ext (e15)
  replace cx9 := cx9.ext (e15)
  replace cx10 := cx10.ext (e15)
  replace rz14 := rz14.ext (e15)
  replace r0 := h0.ext e0
  clear e15
  go_wp2_with (first | ((with_reducible show wpList _ _ _ (Oper.mk _ (Op.load _ _) _ _ _ _ :: _) _ _); refine wl_ldAw (s := shModel) (cs := cs0) (by first | rfl | (go_simp; done) | (go_simp; omega)) rfl rfl c0 hl0.out ?_) | ((with_reducible show wpList _ _ _ (Oper.mk _ (Op.load _ _) _ _ _ _ :: _) _ _); refine wl_ldAw (s := shModel) (cs := c3_0) (by first | rfl | (go_simp; done) | (go_simp; omega)) rfl rfl cx4 hxc3_0.out ?_) | ((with_reducible show wpList _ _ _ (Oper.mk _ (Op.load _ _) _ _ _ _ :: _) _ _); refine wl_ldAw (s := shModel) (cs := c3_1) (by first | rfl | (go_simp; done) | (go_simp; omega)) rfl rfl cx5 hxc3_1.out ?_) | ((with_reducible show wpList _ _ _ (Oper.mk _ (Op.load _ _) _ _ _ _ :: _) _ _); refine wl_ldAw (s := shModel) (cs := c6) (by first | rfl | (go_simp; done) | (go_simp; omega)) rfl rfl cx7 hxc6.out ?_) | ((with_reducible show wpList _ _ _ (Oper.mk _ (Op.load _ _) _ _ _ _ :: _) _ _); refine wl_ldAw (s := shModel) (cs := c8_0) (by first | rfl | (go_simp; done) | (go_simp; omega)) rfl rfl cx9 hxc8_0.out ?_) | ((with_reducible show wpList _ _ _ (Oper.mk _ (Op.load _ _) _ _ _ _ :: _) _ _); refine wl_ldAw (s := shModel) (cs := c8_1) (by first | rfl | (go_simp; done) | (go_simp; omega)) rfl rfl cx10 hxc8_1.out ?_))
  have mb16 := mkV_bd shModel (by decide) D0 1
  refine (markModel_ok c6 D0 b6 1 _ o6 nd6 (by omega) (by omega)).mono ?_
  rintro e w16 ⟨rfl, o16m, ch16⟩
  replace e0 := e0.chg ch16 fun b hb => by have := lo6 b hb; omega
  replace s := Nat.le_trans s (Chg.size ch16)
  replace c0 := Cs.chgB c0 ch16 (Cs.blkLt c0 (by rw [hl0.out]; decide)) (fun h => by have := lo6 _ h; have := lt6 _ h; omega)
  replace o2 := o2.chg ch16 (fun b hb h => by have := lo2 b hb; have := lt2 b hb; have := lo6 b h; have := lt6 b h; omega)
  replace o3_0 := o3_0.chg ch16 (fun b hb h => by have := lo3_0 b hb; have := lt3_0 b hb; have := lo6 b h; have := lt6 b h; omega)
  replace o3_1 := o3_1.chg ch16 (fun b hb h => by have := lo3_1 b hb; have := lt3_1 b hb; have := lo6 b h; have := lt6 b h; omega)
  replace cx4 := Cs.chgB cx4 ch16 (Cs.blkLt cx4 (by rw [hxc3_0.out]; decide)) (fun h => by have := lo6 _ h; have := lt6 _ h; omega)
  replace cx5 := Cs.chgB cx5 ch16 (Cs.blkLt cx5 (by rw [hxc3_1.out]; decide)) (fun h => by have := lo6 _ h; have := lt6 _ h; omega)
  replace cx7 := Cs.chgB cx7 ch16 (Cs.blkLt cx7 (by rw [hxc6.out]; decide)) (fun h => by have := lo6 _ h; have := lt6 _ h; omega)
  replace o8_0 := o8_0.chg ch16 (fun b hb h => by have := lo8_0 b hb; have := lt8_0 b hb; have := lo6 b h; have := lt6 b h; omega)
  replace o8_1 := o8_1.chg ch16 (fun b hb h => by have := lo8_1 b hb; have := lt8_1 b hb; have := lo6 b h; have := lt6 b h; omega)
  replace cx9 := Cs.chgB cx9 ch16 (Cs.blkLt cx9 (by rw [hxc8_0.out]; decide)) (fun h => by have := lo6 _ h; have := lt6 _ h; omega)
  replace cx10 := Cs.chgB cx10 ch16 (Cs.blkLt cx10 (by rw [hxc8_1.out]; decide)) (fun h => by have := lo6 _ h; have := lt6 _ h; omega)
  clear rz14
  replace r0 := h0.ext e0
  clear o6 ch16
  obtain ⟨k16, hk16⟩ : ∃ k, k = (mkV shModel D0 1).2 := ⟨_, rfl⟩
  rw [← hk16] at mb16 ⊢
  have HK16 := hid hk16
  clear hk16
  go_wp2_with (first | ((with_reducible show wpList _ _ _ (Oper.mk _ (Op.load _ _) _ _ _ _ :: _) _ _); refine wl_ldAw (s := shModel) (cs := cs0) (by first | rfl | (go_simp; done) | (go_simp; omega)) rfl rfl c0 hl0.out ?_) | ((with_reducible show wpList _ _ _ (Oper.mk _ (Op.load _ _) _ _ _ _ :: _) _ _); refine wl_ldAw (s := shModel) (cs := c3_0) (by first | rfl | (go_simp; done) | (go_simp; omega)) rfl rfl cx4 hxc3_0.out ?_) | ((with_reducible show wpList _ _ _ (Oper.mk _ (Op.load _ _) _ _ _ _ :: _) _ _); refine wl_ldAw (s := shModel) (cs := c3_1) (by first | rfl | (go_simp; done) | (go_simp; omega)) rfl rfl cx5 hxc3_1.out ?_) | ((with_reducible show wpList _ _ _ (Oper.mk _ (Op.load _ _) _ _ _ _ :: _) _ _); refine wl_ldAw (s := shModel) (cs := c6) (by first | rfl | (go_simp; done) | (go_simp; omega)) rfl rfl cx7 hxc6.out ?_) | ((with_reducible show wpList _ _ _ (Oper.mk _ (Op.load _ _) _ _ _ _ :: _) _ _); refine wl_ldAw (s := shModel) (cs := c8_0) (by first | rfl | (go_simp; done) | (go_simp; omega)) rfl rfl cx9 hxc8_0.out ?_) | ((with_reducible show wpList _ _ _ (Oper.mk _ (Op.load _ _) _ _ _ _ :: _) _ _); refine wl_ldAw (s := shModel) (cs := c8_1) (by first | rfl | (go_simp; done) | (go_simp; omega)) rfl rfl cx10 hxc8_1.out ?_))
  refine (eqModel_ok c8_0 c3_0 R0 _ (o8_0.rep) (o3_0.rep) hbr0).mono ?_
  rintro e w17 ⟨rfl, e17⟩
  replace e0 := e0.trans (e17)
  replace s := Nat.le_trans s (Ext.size (e17))
  replace c0 := c0.ext (e17)
  replace o2 := o2.ext (e17)
  replace o3_0 := o3_0.ext (e17)
  replace o3_1 := o3_1.ext (e17)
  replace cx4 := cx4.ext (e17)
  replace cx5 := cx5.ext (e17)
  replace cx7 := cx7.ext (e17)
  replace o8_0 := o8_0.ext (e17)
  replace o8_1 := o8_1.ext (e17)
  replace cx9 := cx9.ext (e17)
  replace cx10 := cx10.ext (e17)
  replace o16m := o16m.ext (e17)
  replace r0 := h0.ext e0
  clear e17
  go_wp2_with (first | ((with_reducible show wpList _ _ _ (Oper.mk _ (Op.load _ _) _ _ _ _ :: _) _ _); refine wl_ldAw (s := shModel) (cs := cs0) (by first | rfl | (go_simp; done) | (go_simp; omega)) rfl rfl c0 hl0.out ?_) | ((with_reducible show wpList _ _ _ (Oper.mk _ (Op.load _ _) _ _ _ _ :: _) _ _); refine wl_ldAw (s := shModel) (cs := c3_0) (by first | rfl | (go_simp; done) | (go_simp; omega)) rfl rfl cx4 hxc3_0.out ?_) | ((with_reducible show wpList _ _ _ (Oper.mk _ (Op.load _ _) _ _ _ _ :: _) _ _); refine wl_ldAw (s := shModel) (cs := c3_1) (by first | rfl | (go_simp; done) | (go_simp; omega)) rfl rfl cx5 hxc3_1.out ?_) | ((with_reducible show wpList _ _ _ (Oper.mk _ (Op.load _ _) _ _ _ _ :: _) _ _); refine wl_ldAw (s := shModel) (cs := c6) (by first | rfl | (go_simp; done) | (go_simp; omega)) rfl rfl cx7 hxc6.out ?_) | ((with_reducible show wpList _ _ _ (Oper.mk _ (Op.load _ _) _ _ _ _ :: _) _ _); refine wl_ldAw (s := shModel) (cs := c8_0) (by first | rfl | (go_simp; done) | (go_simp; omega)) rfl rfl cx9 hxc8_0.out ?_) | ((with_reducible show wpList _ _ _ (Oper.mk _ (Op.load _ _) _ _ _ _ :: _) _ _); refine wl_ldAw (s := shModel) (cs := c8_1) (by first | rfl | (go_simp; done) | (go_simp; omega)) rfl rfl cx10 hxc8_1.out ?_))
  refine (eqModel_ok c8_1 c3_1 R1 _ (o8_1.rep) (o3_1.rep) hbr1).mono ?_
  rintro e w18 ⟨rfl, e18⟩
  replace e0 := e0.trans (e18)
  replace s := Nat.le_trans s (Ext.size (e18))
  replace c0 := c0.ext (e18)
  replace o2 := o2.ext (e18)
  replace o3_0 := o3_0.ext (e18)
  replace o3_1 := o3_1.ext (e18)
  replace cx4 := cx4.ext (e18)
  replace cx5 := cx5.ext (e18)
  replace cx7 := cx7.ext (e18)
  replace o8_0 := o8_0.ext (e18)
  replace o8_1 := o8_1.ext (e18)
  replace cx9 := cx9.ext (e18)
  replace cx10 := cx10.ext (e18)
  replace o16m := o16m.ext (e18)
  replace r0 := h0.ext e0
  clear e18
  go_wp2_with (first | ((with_reducible show wpList _ _ _ (Oper.mk _ (Op.load _ _) _ _ _ _ :: _) _ _); refine wl_ldAw (s := shModel) (cs := cs0) (by first | rfl | (go_simp; done) | (go_simp; omega)) rfl rfl c0 hl0.out ?_) | ((with_reducible show wpList _ _ _ (Oper.mk _ (Op.load _ _) _ _ _ _ :: _) _ _); refine wl_ldAw (s := shModel) (cs := c3_0) (by first | rfl | (go_simp; done) | (go_simp; omega)) rfl rfl cx4 hxc3_0.out ?_) | ((with_reducible show wpList _ _ _ (Oper.mk _ (Op.load _ _) _ _ _ _ :: _) _ _); refine wl_ldAw (s := shModel) (cs := c3_1) (by first | rfl | (go_simp; done) | (go_simp; omega)) rfl rfl cx5 hxc3_1.out ?_) | ((with_reducible show wpList _ _ _ (Oper.mk _ (Op.load _ _) _ _ _ _ :: _) _ _); refine wl_ldAw (s := shModel) (cs := c6) (by first | rfl | (go_simp; done) | (go_simp; omega)) rfl rfl cx7 hxc6.out ?_) | ((with_reducible show wpList _ _ _ (Oper.mk _ (Op.load _ _) _ _ _ _ :: _) _ _); refine wl_ldAw (s := shModel) (cs := c8_0) (by first | rfl | (go_simp; done) | (go_simp; omega)) rfl rfl cx9 hxc8_0.out ?_) | ((with_reducible show wpList _ _ _ (Oper.mk _ (Op.load _ _) _ _ _ _ :: _) _ _); refine wl_ldAw (s := shModel) (cs := c8_1) (by first | rfl | (go_simp; done) | (go_simp; omega)) rfl rfl cx10 hxc8_1.out ?_))
  have mb19 := mkV_bd shModel (by decide) R0 1
  refine (markModel_ok c8_0 R0 b8_0 1 _ o8_0 nd8_0 (by omega) (by omega)).mono ?_
  rintro e w19 ⟨rfl, o19m, ch19⟩
  replace e0 := e0.chg ch19 fun b hb => by have := lo8_0 b hb; omega
  replace s := Nat.le_trans s (Chg.size ch19)
  replace c0 := Cs.chgB c0 ch19 (Cs.blkLt c0 (by rw [hl0.out]; decide)) (fun h => by have := lo8_0 _ h; have := lt8_0 _ h; omega)
  replace o2 := o2.chg ch19 (fun b hb h => by have := lo2 b hb; have := lt2 b hb; have := lo8_0 b h; have := lt8_0 b h; omega)
  replace o3_0 := o3_0.chg ch19 (fun b hb h => by have := lo3_0 b hb; have := lt3_0 b hb; have := lo8_0 b h; have := lt8_0 b h; omega)
  replace o3_1 := o3_1.chg ch19 (fun b hb h => by have := lo3_1 b hb; have := lt3_1 b hb; have := lo8_0 b h; have := lt8_0 b h; omega)
  replace cx4 := Cs.chgB cx4 ch19 (Cs.blkLt cx4 (by rw [hxc3_0.out]; decide)) (fun h => by have := lo8_0 _ h; have := lt8_0 _ h; omega)
  replace cx5 := Cs.chgB cx5 ch19 (Cs.blkLt cx5 (by rw [hxc3_1.out]; decide)) (fun h => by have := lo8_0 _ h; have := lt8_0 _ h; omega)
  replace cx7 := Cs.chgB cx7 ch19 (Cs.blkLt cx7 (by rw [hxc6.out]; decide)) (fun h => by have := lo8_0 _ h; have := lt8_0 _ h; omega)
  replace o8_1 := o8_1.chg ch19 (fun b hb h => ap8 b h hb)
  replace cx9 := Cs.chgB cx9 ch19 (Cs.blkLt cx9 (by rw [hxc8_0.out]; decide)) (fun h => by have := lo8_0 _ h; have := lt8_0 _ h; omega)
  replace cx10 := Cs.chgB cx10 ch19 (Cs.blkLt cx10 (by rw [hxc8_1.out]; decide)) (fun h => by have := lo8_0 _ h; have := lt8_0 _ h; omega)
  replace o16m := o16m.chg ch19 (fun b hb h => by have := lo6 b hb; have := lt6 b hb; have := lo8_0 b h; have := lt8_0 b h; omega)
  replace r0 := h0.ext e0
  clear o8_0 ch19
  obtain ⟨k19, hk19⟩ : ∃ k, k = (mkV shModel R0 1).2 := ⟨_, rfl⟩
  rw [← hk19] at mb19 ⊢
  have HK19 := hid hk19
  clear hk19
  go_wp2_with (first | ((with_reducible show wpList _ _ _ (Oper.mk _ (Op.load _ _) _ _ _ _ :: _) _ _); refine wl_ldAw (s := shModel) (cs := cs0) (by first | rfl | (go_simp; done) | (go_simp; omega)) rfl rfl c0 hl0.out ?_) | ((with_reducible show wpList _ _ _ (Oper.mk _ (Op.load _ _) _ _ _ _ :: _) _ _); refine wl_ldAw (s := shModel) (cs := c3_0) (by first | rfl | (go_simp; done) | (go_simp; omega)) rfl rfl cx4 hxc3_0.out ?_) | ((with_reducible show wpList _ _ _ (Oper.mk _ (Op.load _ _) _ _ _ _ :: _) _ _); refine wl_ldAw (s := shModel) (cs := c3_1) (by first | rfl | (go_simp; done) | (go_simp; omega)) rfl rfl cx5 hxc3_1.out ?_) | ((with_reducible show wpList _ _ _ (Oper.mk _ (Op.load _ _) _ _ _ _ :: _) _ _); refine wl_ldAw (s := shModel) (cs := c6) (by first | rfl | (go_simp; done) | (go_simp; omega)) rfl rfl cx7 hxc6.out ?_) | ((with_reducible show wpList _ _ _ (Oper.mk _ (Op.load _ _) _ _ _ _ :: _) _ _); refine wl_ldAw (s := shModel) (cs := c8_0) (by first | rfl | (go_simp; done) | (go_simp; omega)) rfl rfl cx9 hxc8_0.out ?_) | ((with_reducible show wpList _ _ _ (Oper.mk _ (Op.load _ _) _ _ _ _ :: _) _ _); refine wl_ldAw (s := shModel) (cs := c8_1) (by first | rfl | (go_simp; done) | (go_simp; omega)) rfl rfl cx10 hxc8_1.out ?_))
  have mb20 := mkV_bd shModel (by decide) R1 k19
  refine (markModel_ok c8_1 R1 b8_1 k19 _ o8_1 nd8_1 (by omega) (by omega)).mono ?_
  rintro e w20 ⟨rfl, o20m, ch20⟩
  replace e0 := e0.chg ch20 fun b hb => by have := lo8_1 b hb; omega
  replace s := Nat.le_trans s (Chg.size ch20)
  replace c0 := Cs.chgB c0 ch20 (Cs.blkLt c0 (by rw [hl0.out]; decide)) (fun h => by have := lo8_1 _ h; have := lt8_1 _ h; omega)
  replace o2 := o2.chg ch20 (fun b hb h => by have := lo2 b hb; have := lt2 b hb; have := lo8_1 b h; have := lt8_1 b h; omega)
  replace o3_0 := o3_0.chg ch20 (fun b hb h => by have := lo3_0 b hb; have := lt3_0 b hb; have := lo8_1 b h; have := lt8_1 b h; omega)
  replace o3_1 := o3_1.chg ch20 (fun b hb h => by have := lo3_1 b hb; have := lt3_1 b hb; have := lo8_1 b h; have := lt8_1 b h; omega)
  replace cx4 := Cs.chgB cx4 ch20 (Cs.blkLt cx4 (by rw [hxc3_0.out]; decide)) (fun h => by have := lo8_1 _ h; have := lt8_1 _ h; omega)
  replace cx5 := Cs.chgB cx5 ch20 (Cs.blkLt cx5 (by rw [hxc3_1.out]; decide)) (fun h => by have := lo8_1 _ h; have := lt8_1 _ h; omega)
  replace cx7 := Cs.chgB cx7 ch20 (Cs.blkLt cx7 (by rw [hxc6.out]; decide)) (fun h => by have := lo8_1 _ h; have := lt8_1 _ h; omega)
  replace cx9 := Cs.chgB cx9 ch20 (Cs.blkLt cx9 (by rw [hxc8_0.out]; decide)) (fun h => by have := lo8_1 _ h; have := lt8_1 _ h; omega)
  replace cx10 := Cs.chgB cx10 ch20 (Cs.blkLt cx10 (by rw [hxc8_1.out]; decide)) (fun h => by have := lo8_1 _ h; have := lt8_1 _ h; omega)
  replace o16m := o16m.chg ch20 (fun b hb h => by have := lo6 b hb; have := lt6 b hb; have := lo8_1 b h; have := lt8_1 b h; omega)
  replace o19m := o19m.chg ch20 (fun b hb h => aq8 b h hb)
  replace r0 := h0.ext e0
  clear o8_1 ch20
  obtain ⟨k20, hk20⟩ : ∃ k, k = (mkV shModel R1 k19).2 := ⟨_, rfl⟩
  rw [← hk20] at mb20 ⊢
  have HK20 := hid hk20
  clear hk20
  go_wp2_with (first | ((with_reducible show wpList _ _ _ (Oper.mk _ (Op.load _ _) _ _ _ _ :: _) _ _); refine wl_ldAw (s := shModel) (cs := cs0) (by first | rfl | (go_simp; done) | (go_simp; omega)) rfl rfl c0 hl0.out ?_) | ((with_reducible show wpList _ _ _ (Oper.mk _ (Op.load _ _) _ _ _ _ :: _) _ _); refine wl_ldAw (s := shModel) (cs := c3_0) (by first | rfl | (go_simp; done) | (go_simp; omega)) rfl rfl cx4 hxc3_0.out ?_) | ((with_reducible show wpList _ _ _ (Oper.mk _ (Op.load _ _) _ _ _ _ :: _) _ _); refine wl_ldAw (s := shModel) (cs := c3_1) (by first | rfl | (go_simp; done) | (go_simp; omega)) rfl rfl cx5 hxc3_1.out ?_) | ((with_reducible show wpList _ _ _ (Oper.mk _ (Op.load _ _) _ _ _ _ :: _) _ _); refine wl_ldAw (s := shModel) (cs := c6) (by first | rfl | (go_simp; done) | (go_simp; omega)) rfl rfl cx7 hxc6.out ?_) | ((with_reducible show wpList _ _ _ (Oper.mk _ (Op.load _ _) _ _ _ _ :: _) _ _); refine wl_ldAw (s := shModel) (cs := c8_0) (by first | rfl | (go_simp; done) | (go_simp; omega)) rfl rfl cx9 hxc8_0.out ?_) | ((with_reducible show wpList _ _ _ (Oper.mk _ (Op.load _ _) _ _ _ _ :: _) _ _); refine wl_ldAw (s := shModel) (cs := c8_1) (by first | rfl | (go_simp; done) | (go_simp; omega)) rfl rfl cx10 hxc8_1.out ?_))
  refine (heldModel_ok c8_0 R0 1 _ o19m.rep (by omega) (by omega)).mono ?_
  rintro e w21 ⟨rfl, e21⟩
  replace e0 := e0.trans (e21)
  replace s := Nat.le_trans s (Ext.size (e21))
  replace c0 := c0.ext (e21)
  replace o2 := o2.ext (e21)
  replace o3_0 := o3_0.ext (e21)
  replace o3_1 := o3_1.ext (e21)
  replace cx4 := cx4.ext (e21)
  replace cx5 := cx5.ext (e21)
  replace cx7 := cx7.ext (e21)
  replace cx9 := cx9.ext (e21)
  replace cx10 := cx10.ext (e21)
  replace o16m := o16m.ext (e21)
  replace o19m := o19m.ext (e21)
  replace o20m := o20m.ext (e21)
  replace r0 := h0.ext e0
  clear e21
  rw [← HK19.out]
  go_wp2_with (first | ((with_reducible show wpList _ _ _ (Oper.mk _ (Op.load _ _) _ _ _ _ :: _) _ _); refine wl_ldAw (s := shModel) (cs := cs0) (by first | rfl | (go_simp; done) | (go_simp; omega)) rfl rfl c0 hl0.out ?_) | ((with_reducible show wpList _ _ _ (Oper.mk _ (Op.load _ _) _ _ _ _ :: _) _ _); refine wl_ldAw (s := shModel) (cs := c3_0) (by first | rfl | (go_simp; done) | (go_simp; omega)) rfl rfl cx4 hxc3_0.out ?_) | ((with_reducible show wpList _ _ _ (Oper.mk _ (Op.load _ _) _ _ _ _ :: _) _ _); refine wl_ldAw (s := shModel) (cs := c3_1) (by first | rfl | (go_simp; done) | (go_simp; omega)) rfl rfl cx5 hxc3_1.out ?_) | ((with_reducible show wpList _ _ _ (Oper.mk _ (Op.load _ _) _ _ _ _ :: _) _ _); refine wl_ldAw (s := shModel) (cs := c6) (by first | rfl | (go_simp; done) | (go_simp; omega)) rfl rfl cx7 hxc6.out ?_) | ((with_reducible show wpList _ _ _ (Oper.mk _ (Op.load _ _) _ _ _ _ :: _) _ _); refine wl_ldAw (s := shModel) (cs := c8_0) (by first | rfl | (go_simp; done) | (go_simp; omega)) rfl rfl cx9 hxc8_0.out ?_) | ((with_reducible show wpList _ _ _ (Oper.mk _ (Op.load _ _) _ _ _ _ :: _) _ _); refine wl_ldAw (s := shModel) (cs := c8_1) (by first | rfl | (go_simp; done) | (go_simp; omega)) rfl rfl cx10 hxc8_1.out ?_))
  refine (heldModel_ok c8_1 R1 k19 _ o20m.rep (by omega) (by omega)).mono ?_
  rintro e w22 ⟨rfl, e22⟩
  replace e0 := e0.trans (e22)
  replace s := Nat.le_trans s (Ext.size (e22))
  replace c0 := c0.ext (e22)
  replace o2 := o2.ext (e22)
  replace o3_0 := o3_0.ext (e22)
  replace o3_1 := o3_1.ext (e22)
  replace cx4 := cx4.ext (e22)
  replace cx5 := cx5.ext (e22)
  replace cx7 := cx7.ext (e22)
  replace cx9 := cx9.ext (e22)
  replace cx10 := cx10.ext (e22)
  replace o16m := o16m.ext (e22)
  replace o19m := o19m.ext (e22)
  replace o20m := o20m.ext (e22)
  replace r0 := h0.ext e0
  clear e22
  rw [← HK20.out]
  go_wp2_with (first | ((with_reducible show wpList _ _ _ (Oper.mk _ (Op.load _ _) _ _ _ _ :: _) _ _); refine wl_ldAw (s := shModel) (cs := cs0) (by first | rfl | (go_simp; done) | (go_simp; omega)) rfl rfl c0 hl0.out ?_) | ((with_reducible show wpList _ _ _ (Oper.mk _ (Op.load _ _) _ _ _ _ :: _) _ _); refine wl_ldAw (s := shModel) (cs := c3_0) (by first | rfl | (go_simp; done) | (go_simp; omega)) rfl rfl cx4 hxc3_0.out ?_) | ((with_reducible show wpList _ _ _ (Oper.mk _ (Op.load _ _) _ _ _ _ :: _) _ _); refine wl_ldAw (s := shModel) (cs := c3_1) (by first | rfl | (go_simp; done) | (go_simp; omega)) rfl rfl cx5 hxc3_1.out ?_) | ((with_reducible show wpList _ _ _ (Oper.mk _ (Op.load _ _) _ _ _ _ :: _) _ _); refine wl_ldAw (s := shModel) (cs := c6) (by first | rfl | (go_simp; done) | (go_simp; omega)) rfl rfl cx7 hxc6.out ?_) | ((with_reducible show wpList _ _ _ (Oper.mk _ (Op.load _ _) _ _ _ _ :: _) _ _); refine wl_ldAw (s := shModel) (cs := c8_0) (by first | rfl | (go_simp; done) | (go_simp; omega)) rfl rfl cx9 hxc8_0.out ?_) | ((with_reducible show wpList _ _ _ (Oper.mk _ (Op.load _ _) _ _ _ _ :: _) _ _); refine wl_ldAw (s := shModel) (cs := c8_1) (by first | rfl | (go_simp; done) | (go_simp; omega)) rfl rfl cx10 hxc8_1.out ?_))
  refine (toModel_ok cs0 D0 _ r0 hb0).mono ?_
  rintro e w23 ⟨c23, b23, rfl, o23, nd23, lo23, e23⟩
  have m23 := s
  have sz23 := Ext.size e23
  have lt23 := Own.lt o23
  replace e0 := e0.trans (e23)
  replace s := Nat.le_trans s (Ext.size (e23))
  replace c0 := c0.ext (e23)
  replace o2 := o2.ext (e23)
  replace o3_0 := o3_0.ext (e23)
  replace o3_1 := o3_1.ext (e23)
  replace cx4 := cx4.ext (e23)
  replace cx5 := cx5.ext (e23)
  replace cx7 := cx7.ext (e23)
  replace cx9 := cx9.ext (e23)
  replace cx10 := cx10.ext (e23)
  replace o16m := o16m.ext (e23)
  replace o19m := o19m.ext (e23)
  replace o20m := o20m.ext (e23)
  replace r0 := h0.ext e0
  clear e23
  obtain ⟨N23, hN23⟩ : ∃ N, N = w23.heap.size := ⟨_, rfl⟩
  rw [← hN23] at sz23 lt23
  have s := Nat.le_of_eq hN23
  have hxc23 := hid o23.rep.size
  have hyc23 := hid o23.rep.one
  go_wp2_with (first | ((with_reducible show wpList _ _ _ (Oper.mk _ (Op.load _ _) _ _ _ _ :: _) _ _); refine wl_ldAw (s := shModel) (cs := cs0) (by first | rfl | (go_simp; done) | (go_simp; omega)) rfl rfl c0 hl0.out ?_) | ((with_reducible show wpList _ _ _ (Oper.mk _ (Op.load _ _) _ _ _ _ :: _) _ _); refine wl_ldAw (s := shModel) (cs := c3_0) (by first | rfl | (go_simp; done) | (go_simp; omega)) rfl rfl cx4 hxc3_0.out ?_) | ((with_reducible show wpList _ _ _ (Oper.mk _ (Op.load _ _) _ _ _ _ :: _) _ _); refine wl_ldAw (s := shModel) (cs := c3_1) (by first | rfl | (go_simp; done) | (go_simp; omega)) rfl rfl cx5 hxc3_1.out ?_) | ((with_reducible show wpList _ _ _ (Oper.mk _ (Op.load _ _) _ _ _ _ :: _) _ _); refine wl_ldAw (s := shModel) (cs := c6) (by first | rfl | (go_simp; done) | (go_simp; omega)) rfl rfl cx7 hxc6.out ?_) | ((with_reducible show wpList _ _ _ (Oper.mk _ (Op.load _ _) _ _ _ _ :: _) _ _); refine wl_ldAw (s := shModel) (cs := c8_0) (by first | rfl | (go_simp; done) | (go_simp; omega)) rfl rfl cx9 hxc8_0.out ?_) | ((with_reducible show wpList _ _ _ (Oper.mk _ (Op.load _ _) _ _ _ _ :: _) _ _); refine wl_ldAw (s := shModel) (cs := c8_1) (by first | rfl | (go_simp; done) | (go_simp; omega)) rfl rfl cx10 hxc8_1.out ?_))
  refine (K.out c23 _ o23.rep f0 f1).mono ?_
  rintro e w24 ⟨c24_0, b24_0, c24_1, b24_1, rfl, o24_0, o24_1, nda24, loa24, e24⟩
  dsimp only at o24_0 o24_1
  obtain ⟨nd24_0, nd24_1, ap24, aq24⟩ := nodup_split nda24
  have lo24_0 := fun b (hb : b ∈ b24_0) => loa24 b (List.mem_append.2 (.inl hb))
  have lo24_1 := fun b (hb : b ∈ b24_1) => loa24 b (List.mem_append.2 (.inr hb))
  clear loa24 nda24
  have m24 := s
  have sz24 := Ext.size e24
  have lt24_0 := Own.lt o24_0
  have lt24_1 := Own.lt o24_1
  replace e0 := e0.trans (e24)
  replace s := Nat.le_trans s (Ext.size (e24))
  replace c0 := c0.ext (e24)
  replace o2 := o2.ext (e24)
  replace o3_0 := o3_0.ext (e24)
  replace o3_1 := o3_1.ext (e24)
  replace cx4 := cx4.ext (e24)
  replace cx5 := cx5.ext (e24)
  replace cx7 := cx7.ext (e24)
  replace cx9 := cx9.ext (e24)
  replace cx10 := cx10.ext (e24)
  replace o16m := o16m.ext (e24)
  replace o19m := o19m.ext (e24)
  replace o20m := o20m.ext (e24)
  replace o23 := o23.ext (e24)
  replace r0 := h0.ext e0
  clear e24
  obtain ⟨N24, hN24⟩ : ∃ N, N = w24.heap.size := ⟨_, rfl⟩
  rw [← hN24] at sz24 lt24_0 lt24_1
  have s := Nat.le_of_eq hN24
  have hxc24_0 := hid o24_0.rep.size
  have hyc24_0 := hid o24_0.rep.one
  have hxc24_1 := hid o24_1.rep.size
  have hyc24_1 := hid o24_1.rep.one
  go_wp2_with (first | ((with_reducible show wpList _ _ _ (Oper.mk _ (Op.load _ _) _ _ _ _ :: _) _ _); refine wl_ldAw (s := shModel) (cs := cs0) (by first | rfl | (go_simp; done) | (go_simp; omega)) rfl rfl c0 hl0.out ?_) | ((with_reducible show wpList _ _ _ (Oper.mk _ (Op.load _ _) _ _ _ _ :: _) _ _); refine wl_ldAw (s := shModel) (cs := c3_0) (by first | rfl | (go_simp; done) | (go_simp; omega)) rfl rfl cx4 hxc3_0.out ?_) | ((with_reducible show wpList _ _ _ (Oper.mk _ (Op.load _ _) _ _ _ _ :: _) _ _); refine wl_ldAw (s := shModel) (cs := c3_1) (by first | rfl | (go_simp; done) | (go_simp; omega)) rfl rfl cx5 hxc3_1.out ?_) | ((with_reducible show wpList _ _ _ (Oper.mk _ (Op.load _ _) _ _ _ _ :: _) _ _); refine wl_ldAw (s := shModel) (cs := c6) (by first | rfl | (go_simp; done) | (go_simp; omega)) rfl rfl cx7 hxc6.out ?_) | ((with_reducible show wpList _ _ _ (Oper.mk _ (Op.load _ _) _ _ _ _ :: _) _ _); refine wl_ldAw (s := shModel) (cs := c8_0) (by first | rfl | (go_simp; done) | (go_simp; omega)) rfl rfl cx9 hxc8_0.out ?_) | ((with_reducible show wpList _ _ _ (Oper.mk _ (Op.load _ _) _ _ _ _ :: _) _ _); refine wl_ldAw (s := shModel) (cs := c8_1) (by first | rfl | (go_simp; done) | (go_simp; omega)) rfl rfl cx10 hxc8_1.out ?_) | ((with_reducible show wpList _ _ _ (Oper.mk _ (Op.store _ _ _) _ _ _ _ :: _) _ _); refine wl_stA (s := shModel) (cs := c24_0) rfl rfl rfl rfl (heap_alloc_old2 _ _ _) rfl hxc24_0.out hyc24_0.out (by decide) ?_; intro wc25 cx25 ch25; have hz25 := heap_second ch25) | ((with_reducible show wpList _ _ _ (Oper.mk _ (Op.load _ _) _ _ _ _ :: _) _ _); refine wl_ldAw (s := shModel) (cs := c24_0) (by first | rfl | (go_simp; done) | (go_simp; omega)) rfl rfl cx25 hxc24_0.out ?_) | ((with_reducible show wpList _ _ _ (Oper.mk _ (Op.store _ _ _) _ _ _ _ :: _) _ _); refine wl_stA (s := shModel) (cs := c24_1) rfl rfl rfl rfl hz25 rfl hxc24_1.out hyc24_1.out (by decide) ?_; intro wc26 cx26 ch26; have E26 := Ext.of_chg22 ch25 ch26; have mc26 := s; replace cx25 := cx25.first2 ch25 ch26; replace e0 := e0.trans (E26); replace s := Nat.le_trans s (Ext.size (E26)); replace c0 := c0.ext (E26); replace o2 := o2.ext (E26); replace o3_0 := o3_0.ext (E26); replace o3_1 := o3_1.ext (E26); replace cx4 := cx4.ext (E26); replace cx5 := cx5.ext (E26); replace cx7 := cx7.ext (E26); replace cx9 := cx9.ext (E26); replace cx10 := cx10.ext (E26); replace o16m := o16m.ext (E26); replace o19m := o19m.ext (E26); replace o20m := o20m.ext (E26); replace o23 := o23.ext (E26); replace o24_0 := o24_0.ext (E26); replace o24_1 := o24_1.ext (E26); replace r0 := h0.ext e0; have vl25 := Cs.blkLt cx25 (by rw [hxc24_0.out]; decide); have vl26 := Cs.blkLt cx26 (by rw [hxc24_1.out]; decide); obtain ⟨Nc26, hNc26⟩ : ∃ N, N = wc26.heap.size := ⟨_, rfl⟩; rw [← hNc26] at vl25 vl26; have s := Nat.le_of_eq hNc26; clear hz25 E26 ch25 ch26) | ((with_reducible show wpList _ _ _ (Oper.mk _ (Op.load _ _) _ _ _ _ :: _) _ _); refine wl_ldAw (s := shModel) (cs := c24_1) (by first | rfl | (go_simp; done) | (go_simp; omega)) rfl rfl cx26 hxc24_1.out ?_))
  refine (eqModel_ok c24_0 c3_0 R0 _ (o24_0.rep) (o3_0.rep) hbr0).mono ?_
  rintro e w27 ⟨rfl, e27⟩
  replace e0 := e0.trans (e27)
  replace s := Nat.le_trans s (Ext.size (e27))
  replace c0 := c0.ext (e27)
  replace o2 := o2.ext (e27)
  replace o3_0 := o3_0.ext (e27)
  replace o3_1 := o3_1.ext (e27)
  replace cx4 := cx4.ext (e27)
  replace cx5 := cx5.ext (e27)
  replace cx7 := cx7.ext (e27)
  replace cx9 := cx9.ext (e27)
  replace cx10 := cx10.ext (e27)
  replace o16m := o16m.ext (e27)
  replace o19m := o19m.ext (e27)
  replace o20m := o20m.ext (e27)
  replace o23 := o23.ext (e27)
  replace o24_0 := o24_0.ext (e27)
  replace o24_1 := o24_1.ext (e27)
  replace cx25 := cx25.ext (e27)
  replace cx26 := cx26.ext (e27)
  replace r0 := h0.ext e0
  clear e27
  go_wp2_with (first | ((with_reducible show wpList _ _ _ (Oper.mk _ (Op.load _ _) _ _ _ _ :: _) _ _); refine wl_ldAw (s := shModel) (cs := cs0) (by first | rfl | (go_simp; done) | (go_simp; omega)) rfl rfl c0 hl0.out ?_) | ((with_reducible show wpList _ _ _ (Oper.mk _ (Op.load _ _) _ _ _ _ :: _) _ _); refine wl_ldAw (s := shModel) (cs := c3_0) (by first | rfl | (go_simp; done) | (go_simp; omega)) rfl rfl cx4 hxc3_0.out ?_) | ((with_reducible show wpList _ _ _ (Oper.mk _ (Op.load _ _) _ _ _ _ :: _) _ _); refine wl_ldAw (s := shModel) (cs := c3_1) (by first | rfl | (go_simp; done) | (go_simp; omega)) rfl rfl cx5 hxc3_1.out ?_) | ((with_reducible show wpList _ _ _ (Oper.mk _ (Op.load _ _) _ _ _ _ :: _) _ _); refine wl_ldAw (s := shModel) (cs := c6) (by first | rfl | (go_simp; done) | (go_simp; omega)) rfl rfl cx7 hxc6.out ?_) | ((with_reducible show wpList _ _ _ (Oper.mk _ (Op.load _ _) _ _ _ _ :: _) _ _); refine wl_ldAw (s := shModel) (cs := c8_0) (by first | rfl | (go_simp; done) | (go_simp; omega)) rfl rfl cx9 hxc8_0.out ?_) | ((with_reducible show wpList _ _ _ (Oper.mk _ (Op.load _ _) _ _ _ _ :: _) _ _); refine wl_ldAw (s := shModel) (cs := c8_1) (by first | rfl | (go_simp; done) | (go_simp; omega)) rfl rfl cx10 hxc8_1.out ?_) | ((with_reducible show wpList _ _ _ (Oper.mk _ (Op.load _ _) _ _ _ _ :: _) _ _); refine wl_ldAw (s := shModel) (cs := c24_0) (by first | rfl | (go_simp; done) | (go_simp; omega)) rfl rfl cx25 hxc24_0.out ?_) | ((with_reducible show wpList _ _ _ (Oper.mk _ (Op.load _ _) _ _ _ _ :: _) _ _); refine wl_ldAw (s := shModel) (cs := c24_1) (by first | rfl | (go_simp; done) | (go_simp; omega)) rfl rfl cx26 hxc24_1.out ?_))
  refine (eqModel_ok c24_1 c3_1 R1 _ (o24_1.rep) (o3_1.rep) hbr1).mono ?_
  rintro e w28 ⟨rfl, e28⟩
  replace e0 := e0.trans (e28)
  replace s := Nat.le_trans s (Ext.size (e28))
  replace c0 := c0.ext (e28)
  replace o2 := o2.ext (e28)
  replace o3_0 := o3_0.ext (e28)
  replace o3_1 := o3_1.ext (e28)
  replace cx4 := cx4.ext (e28)
  replace cx5 := cx5.ext (e28)
  replace cx7 := cx7.ext (e28)
  replace cx9 := cx9.ext (e28)
  replace cx10 := cx10.ext (e28)
  replace o16m := o16m.ext (e28)
  replace o19m := o19m.ext (e28)
  replace o20m := o20m.ext (e28)
  replace o23 := o23.ext (e28)
  replace o24_0 := o24_0.ext (e28)
  replace o24_1 := o24_1.ext (e28)
  replace cx25 := cx25.ext (e28)
  replace cx26 := cx26.ext (e28)
  replace r0 := h0.ext e0
  clear e28
  go_wp2_with (first | ((with_reducible show wpList _ _ _ (Oper.mk _ (Op.load _ _) _ _ _ _ :: _) _ _); refine wl_ldAw (s := shModel) (cs := cs0) (by first | rfl | (go_simp; done) | (go_simp; omega)) rfl rfl c0 hl0.out ?_) | ((with_reducible show wpList _ _ _ (Oper.mk _ (Op.load _ _) _ _ _ _ :: _) _ _); refine wl_ldAw (s := shModel) (cs := c3_0) (by first | rfl | (go_simp; done) | (go_simp; omega)) rfl rfl cx4 hxc3_0.out ?_) | ((with_reducible show wpList _ _ _ (Oper.mk _ (Op.load _ _) _ _ _ _ :: _) _ _); refine wl_ldAw (s := shModel) (cs := c3_1) (by first | rfl | (go_simp; done) | (go_simp; omega)) rfl rfl cx5 hxc3_1.out ?_) | ((with_reducible show wpList _ _ _ (Oper.mk _ (Op.load _ _) _ _ _ _ :: _) _ _); refine wl_ldAw (s := shModel) (cs := c6) (by first | rfl | (go_simp; done) | (go_simp; omega)) rfl rfl cx7 hxc6.out ?_) | ((with_reducible show wpList _ _ _ (Oper.mk _ (Op.load _ _) _ _ _ _ :: _) _ _); refine wl_ldAw (s := shModel) (cs := c8_0) (by first | rfl | (go_simp; done) | (go_simp; omega)) rfl rfl cx9 hxc8_0.out ?_) | ((with_reducible show wpList _ _ _ (Oper.mk _ (Op.load _ _) _ _ _ _ :: _) _ _); refine wl_ldAw (s := shModel) (cs := c8_1) (by first | rfl | (go_simp; done) | (go_simp; omega)) rfl rfl cx10 hxc8_1.out ?_) | ((with_reducible show wpList _ _ _ (Oper.mk _ (Op.load _ _) _ _ _ _ :: _) _ _); refine wl_ldAw (s := shModel) (cs := c24_0) (by first | rfl | (go_simp; done) | (go_simp; omega)) rfl rfl cx25 hxc24_0.out ?_) | ((with_reducible show wpList _ _ _ (Oper.mk _ (Op.load _ _) _ _ _ _ :: _) _ _); refine wl_ldAw (s := shModel) (cs := c24_1) (by first | rfl | (go_simp; done) | (go_simp; omega)) rfl rfl cx26 hxc24_1.out ?_))
  refine (heldModel_ok c8_0 R0 1 _ o19m.rep (by omega) (by omega)).mono ?_
  rintro e w29 ⟨rfl, e29⟩
  replace e0 := e0.trans (e29)
  replace s := Nat.le_trans s (Ext.size (e29))
  replace c0 := c0.ext (e29)
  replace o2 := o2.ext (e29)
  replace o3_0 := o3_0.ext (e29)
  replace o3_1 := o3_1.ext (e29)
  replace cx4 := cx4.ext (e29)
  replace cx5 := cx5.ext (e29)
  replace cx7 := cx7.ext (e29)
  replace cx9 := cx9.ext (e29)
  replace cx10 := cx10.ext (e29)
  replace o16m := o16m.ext (e29)
  replace o19m := o19m.ext (e29)
  replace o20m := o20m.ext (e29)
  replace o23 := o23.ext (e29)
  replace o24_0 := o24_0.ext (e29)
  replace o24_1 := o24_1.ext (e29)
  replace cx25 := cx25.ext (e29)
  replace cx26 := cx26.ext (e29)
  replace r0 := h0.ext e0
  clear e29
  rw [← HK19.out]
  go_wp2_with (first | ((with_reducible show wpList _ _ _ (Oper.mk _ (Op.load _ _) _ _ _ _ :: _) _ _); refine wl_ldAw (s := shModel) (cs := cs0) (by first | rfl | (go_simp; done) | (go_simp; omega)) rfl rfl c0 hl0.out ?_) | ((with_reducible show wpList _ _ _ (Oper.mk _ (Op.load _ _) _ _ _ _ :: _) _ _); refine wl_ldAw (s := shModel) (cs := c3_0) (by first | rfl | (go_simp; done) | (go_simp; omega)) rfl rfl cx4 hxc3_0.out ?_) | ((with_reducible show wpList _ _ _ (Oper.mk _ (Op.load _ _) _ _ _ _ :: _) _ _); refine wl_ldAw (s := shModel) (cs := c3_1) (by first | rfl | (go_simp; done) | (go_simp; omega)) rfl rfl cx5 hxc3_1.out ?_) | ((with_reducible show wpList _ _ _ (Oper.mk _ (Op.load _ _) _ _ _ _ :: _) _ _); refine wl_ldAw (s := shModel) (cs := c6) (by first | rfl | (go_simp; done) | (go_simp; omega)) rfl rfl cx7 hxc6.out ?_) | ((with_reducible show wpList _ _ _ (Oper.mk _ (Op.load _ _) _ _ _ _ :: _) _ _); refine wl_ldAw (s := shModel) (cs := c8_0) (by first | rfl | (go_simp; done) | (go_simp; omega)) rfl rfl cx9 hxc8_0.out ?_) | ((with_reducible show wpList _ _ _ (Oper.mk _ (Op.load _ _) _ _ _ _ :: _) _ _); refine wl_ldAw (s := shModel) (cs := c8_1) (by first | rfl | (go_simp; done) | (go_simp; omega)) rfl rfl cx10 hxc8_1.out ?_) | ((with_reducible show wpList _ _ _ (Oper.mk _ (Op.load _ _) _ _ _ _ :: _) _ _); refine wl_ldAw (s := shModel) (cs := c24_0) (by first | rfl | (go_simp; done) | (go_simp; omega)) rfl rfl cx25 hxc24_0.out ?_) | ((with_reducible show wpList _ _ _ (Oper.mk _ (Op.load _ _) _ _ _ _ :: _) _ _); refine wl_ldAw (s := shModel) (cs := c24_1) (by first | rfl | (go_simp; done) | (go_simp; omega)) rfl rfl cx26 hxc24_1.out ?_))
  refine (heldModel_ok c8_1 R1 k19 _ o20m.rep (by omega) (by omega)).mono ?_
  rintro e w30 ⟨rfl, e30⟩
  replace e0 := e0.trans (e30)
  replace s := Nat.le_trans s (Ext.size (e30))
  replace c0 := c0.ext (e30)
  replace o2 := o2.ext (e30)
  replace o3_0 := o3_0.ext (e30)
  replace o3_1 := o3_1.ext (e30)
  replace cx4 := cx4.ext (e30)
  replace cx5 := cx5.ext (e30)
  replace cx7 := cx7.ext (e30)
  replace cx9 := cx9.ext (e30)
  replace cx10 := cx10.ext (e30)
  replace o16m := o16m.ext (e30)
  replace o19m := o19m.ext (e30)
  replace o20m := o20m.ext (e30)
  replace o23 := o23.ext (e30)
  replace o24_0 := o24_0.ext (e30)
  replace o24_1 := o24_1.ext (e30)
  replace cx25 := cx25.ext (e30)
  replace cx26 := cx26.ext (e30)
  replace r0 := h0.ext e0
  clear e30
  rw [← HK20.out]
  go_wp2
  go_ret
  exact ⟨rfl, e0⟩
end Go.Proofs.Ytangnigplachdaa.lSplitModel
