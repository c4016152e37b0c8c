/- The law FnExactJoinModels answers true at every input. -/
import Derived.Test.YtangnigplachdaaJn
import Derived.Test.YtangnigplachdaaKb
import Derived.Test.YtangnigplachdaaKf
namespace Go.Proofs.Ytangnigplachdaa.lJoinModels
set_option linter.unusedSimpArgs false
set_option linter.unusedVariables false
open Go.RowKit

set_option maxRecDepth 100000 in
set_option maxHeartbeats 1000000 in
theorem law_any (cs0 : List Value) (D0 : Sh.T shModel) (cs1 : List Value) (D1 : Sh.T shModel) (w : World) (h0 : Rep w shModel cs0 D0) (h1 : Rep w shModel cs1 D1) (f0 : Fit shModel D0) (f1 : Fit shModel D1) : Calls Try.prog 12 #[ofCs shModel cs0, ofCs shModel cs1] w fun e w' => e = .returned (.bool true) ∧ Ext w w' := by
  have hl0 := hid h0.size
  have ho0 := hid h0.one
  have hl1 := hid h1.size
  have ho1 := hid h1.one
  have e0 := Ext.refl w
  obtain ⟨N0, hN0⟩ : ∃ N0, N0 = w.heap.size := ⟨_, rfl⟩
  have s := Nat.le_of_eq hN0
  have r0 := h0
  have r1 := h1
  go_enter Try.func12, Try.ntmps12
  go_wp2_with (first | ((with_reducible show wpList _ _ _ (Oper.mk _ (Op.box _ _) _ _ _ _ :: _) _ _); refine wl_box (s := shModel) (cs := cs0) rfl rfl rfl hl0.out ho0.out ?_; intro b0 v0 g0 vv0 c0; have mb0 := Nat.le_trans s vv0; replace e0 := e0.trans (g0); replace s := Nat.le_trans s (Ext.size (g0)); replace r0 := h0.ext e0; replace r1 := h1.ext e0; have vl0 := Cs.blkLt c0 (by rw [hl0.out]; decide); obtain ⟨Nb0, hNb0⟩ : ∃ N, N = v0.heap.size := ⟨_, rfl⟩; rw [← hNb0] at vl0; have s := Nat.le_of_eq hNb0) | ((with_reducible show wpList _ _ _ (Oper.mk _ (Op.box _ _) _ _ _ _ :: _) _ _); refine wl_box (s := shModel) (cs := cs1) rfl rfl rfl hl1.out ho1.out ?_; intro b1 v1 g1 vv1 c1; have mb1 := Nat.le_trans s vv1; replace e0 := e0.trans (g1); replace s := Nat.le_trans s (Ext.size (g1)); replace r0 := h0.ext e0; replace r1 := h1.ext e0; replace c0 := c0.ext g1; have vl1 := Cs.blkLt c1 (by rw [hl1.out]; decide); obtain ⟨Nb1, hNb1⟩ : ∃ N, N = v1.heap.size := ⟨_, rfl⟩; rw [← hNb1] at vl1; have s := Nat.le_of_eq hNb1) | ((with_reducible show wpList _ _ _ (Oper.mk _ (Op.load _ _) _ _ _ _ :: _) _ _); refine wl_ldAw (s := shModel) (cs := cs0) (by first | rfl | (go_simp; done) | (go_simp; omega)) rfl rfl c0 hl0.out ?_) | ((with_reducible show wpList _ _ _ (Oper.mk _ (Op.load _ _) _ _ _ _ :: _) _ _); refine wl_ldAw (s := shModel) (cs := cs1) (by first | rfl | (go_simp; done) | (go_simp; omega)) rfl rfl c1 hl1.out ?_))
  refine (szModel_ok cs0 D0 1048576 _ r0 (by omega) (by omega)).mono ?_
  rintro e w1 ⟨⟨s1, rfl, hs1⟩, e1⟩
  replace e0 := e0.trans (e1)
  replace s := Nat.le_trans s (Ext.size (e1))
  replace c0 := c0.ext (e1)
  replace c1 := c1.ext (e1)
  replace r0 := h0.ext e0
  replace r1 := h1.ext e0
  clear e1
  by_cases hn1 : s1 < 0
  · go_wp2
    go_ret
    exact ⟨rfl, e0⟩
  have hb0 : tot shModel D0 ≤ 1048576 := by rcases hs1 with h | h; exact absurd h hn1; omega
  have hz1 : 0 ≤ s1 := by omega
  have ht1 : s1 ≤ 1048576 := by rcases hs1 with h | h; exact absurd h hn1; omega
  clear hs1
  go_wp2_with (first | ((with_reducible show wpList _ _ _ (Oper.mk _ (Op.load _ _) _ _ _ _ :: _) _ _); refine wl_ldAw (s := shModel) (cs := cs0) (by first | rfl | (go_simp; done) | (go_simp; omega)) rfl rfl c0 hl0.out ?_) | ((with_reducible show wpList _ _ _ (Oper.mk _ (Op.load _ _) _ _ _ _ :: _) _ _); refine wl_ldAw (s := shModel) (cs := cs1) (by first | rfl | (go_simp; done) | (go_simp; omega)) rfl rfl c1 hl1.out ?_))
  refine (szModel_ok cs1 D1 s1 _ r1 (by omega) (by omega)).mono ?_
  rintro e w2 ⟨⟨s2, rfl, hs2⟩, e2⟩
  replace e0 := e0.trans (e2)
  replace s := Nat.le_trans s (Ext.size (e2))
  replace c0 := c0.ext (e2)
  replace c1 := c1.ext (e2)
  replace r0 := h0.ext e0
  replace r1 := h1.ext e0
  clear e2
  by_cases hn2 : s2 < 0
  · go_wp2
    go_ret
    exact ⟨rfl, e0⟩
  have hb1 : tot shModel D1 ≤ 1048576 := by rcases hs2 with h | h; exact absurd h hn2; omega
  have hz2 : 0 ≤ s2 := by omega
  have ht2 : s2 ≤ 1048576 := by rcases hs2 with h | h; exact absurd h hn2; omega
  clear hs2
  go_wp2_with (first | ((with_reducible show wpList _ _ _ (Oper.mk _ (Op.load _ _) _ _ _ _ :: _) _ _); refine wl_ldAw (s := shModel) (cs := cs0) (by first | rfl | (go_simp; done) | (go_simp; omega)) rfl rfl c0 hl0.out ?_) | ((with_reducible show wpList _ _ _ (Oper.mk _ (Op.load _ _) _ _ _ _ :: _) _ _); refine wl_ldAw (s := shModel) (cs := cs1) (by first | rfl | (go_simp; done) | (go_simp; omega)) rfl rfl c1 hl1.out ?_))
  replace e0 := e0.trans ((Ext.drew _))
  replace s := Nat.le_trans s (Ext.size ((Ext.drew _)))
  replace c0 := c0.ext ((Ext.drew _))
  replace c1 := c1.ext ((Ext.drew _))
  replace r0 := h0.ext e0
  replace r1 := h1.ext e0
  have hbr0 := res_bd D0 D1 hb0 hb1 f0 f1
  have KS := hid (fun y0 y1 W g0 g1 j0 j1 => spec_ok y0 D0 y1 D1 W g0 g1 j0 j1 hb0 hb1)
  have K := hid (fun y0 y1 W g0 g1 j0 j1 => impl_ok y0 D0 y1 D1 W g0 g1 j0 j1 hb0 hb1)
  generalize res D0 D1 = r at *
  obtain ⟨R0, R1⟩ := r
  dsimp only at hbr0
  obtain ⟨Nd3, hNd3, sNd3⟩ := ext_size e0
  rw [← hNd3] at s
  have md3 := s
  have s := sNd3
  obtain ⟨F3, hF3⟩ : ∃ F : Option Tmp → World → Value → Prop, F = fun d W u => (match d with | some 29 => ∃ cs', u = ofCs shModel cs' ∧ Rep W shModel cs' D0 | some 31 => ∃ cs', u = ofCs shModel cs' ∧ Rep W shModel cs' D1 | some 32 => ∃ cs' bs', u = .tuple #[ofCs shModel cs', .bool R1] ∧ Own W shModel cs' R0 bs' ∧ bs'.Nodup ∧ (∀ b ∈ bs', Nd3 ≤ b) ∧ (∀ b ∈ bs', ∀ Z, W.heap[b]? ≠ some (.cells Z 32)) | _ => True) := ⟨_, rfl⟩
  have HF3 := hid hF3
  clear hF3
  refine wp_region_xs 9 (F := F3) (by kernel_rfl) (by kernel_rfl) (by kernel_rfl) (by kernel_rfl) (by kernel_rfl) ?_
  intro wf hwf
  simp only [List.take_succ_cons, List.take_zero]
  first | (refine x_ldA (s := shModel) (cs := cs0) rfl rfl rfl c0 hl0.out ?_) | (refine x_ldA (s := shModel) (cs := cs1) rfl rfl rfl c1 hl1.out ?_)
  simp only [Act.put, ev_tmp, List.setIfInBounds_toArray, List.set_cons_succ, List.set_cons_zero, List.getD_cons_succ, List.getD_cons_zero]
  refine x_callf (f := 16) (args := #[ofCs shModel cs0]) rfl rfl Try.func16 rfl (by kernel_rfl) ?_ ?_ ?_; (focus (simp [Act.eval]; done)); (focus (intro w1 hw1; exact ((toModel_ok cs0 D0 w1 (r0.ext hw1) hb0).mono fun e w3 ⟨cs3, bs3, g1, g2, _, _, g3⟩ => ⟨_, g1, g3, by rw [HF3.out]; exact ⟨cs3, rfl, g2.rep⟩⟩))); rintro u w3 e3 e4 hu; simp only [HF3.out] at hu; obtain ⟨cz4, rfl, rz4⟩ := hu; clear rz4
  simp only [Act.put, ev_tmp, List.setIfInBounds_toArray, List.set_cons_succ, List.set_cons_zero, List.getD_cons_succ, List.getD_cons_zero]
  first | (refine x_ldA (s := shModel) (cs := cs0) rfl rfl rfl c0 hl0.out ?_) | (refine x_ldA (s := shModel) (cs := cs1) rfl rfl rfl c1 hl1.out ?_)
  simp only [Act.put, ev_tmp, List.setIfInBounds_toArray, List.set_cons_succ, List.set_cons_zero, List.getD_cons_succ, List.getD_cons_zero]
  refine x_callf (f := 16) (args := #[ofCs shModel cs1]) rfl rfl Try.func16 rfl (by kernel_rfl) ?_ ?_ ?_; (focus (simp [Act.eval]; done)); (focus (intro w1 hw1; exact ((toModel_ok cs1 D1 w1 (r1.ext hw1) hb1).mono fun e w3 ⟨cs3, bs3, g1, g2, _, _, g3⟩ => ⟨_, g1, g3, by rw [HF3.out]; exact ⟨cs3, rfl, g2.rep⟩⟩))); rintro u w3 e3 e4 hu; simp only [HF3.out] at hu; obtain ⟨cz5, rfl, rz5⟩ := hu; clear rz5
  simp only [Act.put, ev_tmp, List.setIfInBounds_toArray, List.set_cons_succ, List.set_cons_zero, List.getD_cons_succ, List.getD_cons_zero]
  refine x_callK (f := 69) (args := #[ofCs shModel cz4, ofCs shModel cz5]) rfl rfl Try.func69 rfl (by kernel_rfl) ?_ ?_ ?_; (focus (simp [Act.eval]; done)); (focus (intro w1 hw1 hK; exact (by (obtain ⟨wa0, ga0, gb0, gc0⟩ := known_call hK (j := 1) (d := 29) (by kernel_rfl) rfl rfl rfl rfl Try.func16 rfl (by kernel_rfl) (by simp); rw [HF3.out] at gc0; obtain ⟨ca0, hca0, ra0⟩ := gc0; have hcb0 : ofCs shModel cz4 = ofCs shModel ca0 := hca0; rw [hcb0]; obtain ⟨wa1, ga1, gb1, gc1⟩ := known_call hK (j := 3) (d := 31) (by kernel_rfl) rfl rfl rfl rfl Try.func16 rfl (by kernel_rfl) (by simp); rw [HF3.out] at gc1; obtain ⟨ca1, hca1, ra1⟩ := gc1; have hcb1 : ofCs shModel cz5 = ofCs shModel ca1 := hca1; rw [hcb1]; rw [HF3.out]; exact (KS.out ca0 ca1 w1 (ra0.ext gb0) (ra1.ext gb1) f0 f1).mono fun e w3 ⟨cs3, bs3, g1, g2, g3, g4, g5, g6⟩ => ⟨_, g1, g6, ⟨cs3, bs3, rfl, g2, g3, fun b hb => Nat.le_trans (by rw [hNd3]; exact hw1.size) (g4 b hb), g5⟩⟩)))); rintro u w3 e3 e4 hu; simp only [HF3.out] at hu; obtain ⟨c6_0, b6_0, rfl, o6_0, nd6_0, lo6_0, tg6⟩ := hu; have tg6 := Own.tag_ext o6_0 tg6 e4; replace o6_0 := o6_0.ext e4
  simp only [Act.put, ev_tmp, List.setIfInBounds_toArray, List.set_cons_succ, List.set_cons_zero, List.getD_cons_succ, List.getD_cons_zero]
  refine x_mv rfl rfl rfl ?_
  simp only [Act.put, ev_tmp, List.setIfInBounds_toArray, List.set_cons_succ, List.set_cons_zero, List.getD_cons_succ, List.getD_cons_zero]
  refine x_run rfl fun K hK w1 _ => ?_
  go_simp
  refine hK _ ?_
  clear hK K
  refine x_run rfl fun K hK w1 _ => ?_
  go_simp
  refine hK _ ?_
  clear hK K
  refine x_alloc (t := 32) (Z := #[.slice none 0 0]) rfl (fun w1 => by go_simp) ?_
  intro bA3 hA1 hA2 hA3
  simp only [Act.put, ev_tmp, List.setIfInBounds_toArray, List.set_cons_succ, List.set_cons_zero, List.getD_cons_succ, List.getD_cons_zero]
  refine x_nil ?_
  replace e0 := e0.trans (hwf)
  replace s := Nat.le_trans s (Ext.size (hwf))
  replace c0 := c0.ext (hwf)
  replace c1 := c1.ext (hwf)
  replace r0 := h0.ext e0
  replace r1 := h1.ext e0
  clear hwf
  rw [← hNd3] at hA1
  have la3 := hA1
  have lt6_0 := Own.lt o6_0
  have neA : ∀ b ∈ b6_0, b ≠ bA3 := fun b hb he => tg6 b hb _ ((congrArg (fun i => wf.heap[i]?) he).trans hA3)
  clear tg6
  have hxc6_0 := hid o6_0.rep.size
  have hyc6_0 := hid o6_0.rep.one
  refine as_stA (s := shModel) (cs := c6_0) rfl rfl rfl rfl hA3 rfl hxc6_0.out hyc6_0.out (by decide) ?_
  intro wc7 cx7 ch7
  clear hA3
  replace e0 := e0.chg ch7 (fun b hb => by omega)
  replace s := Nat.le_trans s (Chg.size ch7)
  replace o6_0 := o6_0.chg ch7 (fun b hb h => neA b hb h)
  clear neA
  replace c0 := Cs.chgB c0 ch7 (Cs.blkLt c0 (by rw [hl0.out]; decide)) (fun h => by omega)
  replace c1 := Cs.chgB c1 ch7 (Cs.blkLt c1 (by rw [hl1.out]; decide)) (fun h => by omega)
  replace r0 := h0.ext e0
  replace r1 := h1.ext e0
  have szA := Chg.size ch7
  obtain ⟨N7, hN7⟩ : ∃ N, N = wc7.heap.size := ⟨_, rfl⟩
  rw [← hN7] at szA s
  replace lt6_0 : ∀ b ∈ b6_0, b < N7 := fun b hb => Nat.lt_of_lt_of_le (lt6_0 b hb) szA
  have vl7 : bA3 < N7 := Nat.lt_of_lt_of_le hA2 szA
  have mm7 := s
  have s := Nat.le_of_eq hN7
  clear hA2 ch7 szA
  go_wp2_with (first | ((with_reducible show wpList _ _ _ (Oper.mk _ (Op.load _ _) _ _ _ _ :: _) _ _); refine wl_ldAw (s := shModel) (cs := cs0) (by first | rfl | (go_simp; done) | (go_simp; omega)) rfl rfl c0 hl0.out ?_) | ((with_reducible show wpList _ _ _ (Oper.mk _ (Op.load _ _) _ _ _ _ :: _) _ _); refine wl_ldAw (s := shModel) (cs := cs1) (by first | rfl | (go_simp; done) | (go_simp; omega)) rfl rfl c1 hl1.out ?_) | ((with_reducible show wpList _ _ _ (Oper.mk _ (Op.load _ _) _ _ _ _ :: _) _ _); refine wl_ldAw (s := shModel) (cs := c6_0) (by first | rfl | (go_simp; done) | (go_simp; omega)) rfl rfl cx7 hxc6_0.out ?_))
  refine (toModel_ok cs0 D0 _ r0 hb0).mono ?_
  rintro e w8 ⟨c8, b8, rfl, o8, nd8, lo8, e8⟩
  have m8 := s
  have sz8 := Ext.size e8
  have lt8 := Own.lt o8
  replace e0 := e0.trans (e8)
  replace s := Nat.le_trans s (Ext.size (e8))
  replace c0 := c0.ext (e8)
  replace c1 := c1.ext (e8)
  replace o6_0 := o6_0.ext (e8)
  replace cx7 := cx7.ext (e8)
  replace r0 := h0.ext e0
  replace r1 := h1.ext e0
  clear e8
  obtain ⟨N8, hN8⟩ : ∃ N, N = w8.heap.size := ⟨_, rfl⟩
  rw [← hN8] at sz8 lt8
  have s := Nat.le_of_eq hN8
  have hxc8 := hid o8.rep.size
  have hyc8 := hid o8.rep.one
  go_wp2_with (first | ((with_reducible show wpList _ _ _ (Oper.mk _ (Op.load _ _) _ _ _ _ :: _) _ _); refine wl_ldAw (s := shModel) (cs := cs0) (by first | rfl | (go_simp; done) | (go_simp; omega)) rfl rfl c0 hl0.out ?_) | ((with_reducible show wpList _ _ _ (Oper.mk _ (Op.load _ _) _ _ _ _ :: _) _ _); refine wl_ldAw (s := shModel) (cs := cs1) (by first | rfl | (go_simp; done) | (go_simp; omega)) rfl rfl c1 hl1.out ?_) | ((with_reducible show wpList _ _ _ (Oper.mk _ (Op.load _ _) _ _ _ _ :: _) _ _); refine wl_ldAw (s := shModel) (cs := c6_0) (by first | rfl | (go_simp; done) | (go_simp; omega)) rfl rfl cx7 hxc6_0.out ?_) | ((with_reducible show wpList _ _ _ (Oper.mk _ (Op.store _ _ _) _ _ _ _ :: _) _ _); refine wl_stA (s := shModel) (cs := c8) rfl rfl rfl rfl (by first | exact heap_alloc_new _ _ | exact heap_alloc_old2 _ _ _) rfl hxc8.out hyc8.out (by decide) ?_; intro wc9 cx9 ch9; have E9 := (Ext.of_chg1 ch9); have mc9 := s; replace e0 := e0.trans (E9); replace s := Nat.le_trans s (Ext.size (E9)); replace c0 := c0.ext (E9); replace c1 := c1.ext (E9); replace o6_0 := o6_0.ext (E9); replace cx7 := cx7.ext (E9); replace o8 := o8.ext (E9); replace r0 := h0.ext e0; replace r1 := h1.ext e0; have vl9 := Cs.blkLt cx9 (by rw [hxc8.out]; decide); obtain ⟨Nc9, hNc9⟩ : ∃ N, N = wc9.heap.size := ⟨_, rfl⟩; rw [← hNc9] at vl9; have s := Nat.le_of_eq hNc9; clear E9 ch9) | ((with_reducible show wpList _ _ _ (Oper.mk _ (Op.load _ _) _ _ _ _ :: _) _ _); refine wl_ldAw (s := shModel) (cs := c8) (by first | rfl | (go_simp; done) | (go_simp; omega)) rfl rfl cx9 hxc8.out ?_))
  refine (toModel_ok cs1 D1 _ r1 hb1).mono ?_
  rintro e w10 ⟨c10, b10, rfl, o10, nd10, lo10, e10⟩
  have m10 := s
  have sz10 := Ext.size e10
  have lt10 := Own.lt o10
  replace e0 := e0.trans (e10)
  replace s := Nat.le_trans s (Ext.size (e10))
  replace c0 := c0.ext (e10)
  replace c1 := c1.ext (e10)
  replace o6_0 := o6_0.ext (e10)
  replace cx7 := cx7.ext (e10)
  replace o8 := o8.ext (e10)
  replace cx9 := cx9.ext (e10)
  replace r0 := h0.ext e0
  replace r1 := h1.ext e0
  clear e10
  obtain ⟨N10, hN10⟩ : ∃ N, N = w10.heap.size := ⟨_, rfl⟩
  rw [← hN10] at sz10 lt10
  have s := Nat.le_of_eq hN10
  have hxc10 := hid o10.rep.size
  have hyc10 := hid o10.rep.one
  go_wp2_with (first | ((with_reducible show wpList _ _ _ (Oper.mk _ (Op.load _ _) _ _ _ _ :: _) _ _); refine wl_ldAw (s := shModel) (cs := cs0) (by first | rfl | (go_simp; done) | (go_simp; omega)) rfl rfl c0 hl0.out ?_) | ((with_reducible show wpList _ _ _ (Oper.mk _ (Op.load _ _) _ _ _ _ :: _) _ _); refine wl_ldAw (s := shModel) (cs := cs1) (by first | rfl | (go_simp; done) | (go_simp; omega)) rfl rfl c1 hl1.out ?_) | ((with_reducible show wpList _ _ _ (Oper.mk _ (Op.load _ _) _ _ _ _ :: _) _ _); refine wl_ldAw (s := shModel) (cs := c6_0) (by first | rfl | (go_simp; done) | (go_simp; omega)) rfl rfl cx7 hxc6_0.out ?_) | ((with_reducible show wpList _ _ _ (Oper.mk _ (Op.load _ _) _ _ _ _ :: _) _ _); refine wl_ldAw (s := shModel) (cs := c8) (by first | rfl | (go_simp; done) | (go_simp; omega)) rfl rfl cx9 hxc8.out ?_) | ((with_reducible show wpList _ _ _ (Oper.mk _ (Op.store _ _ _) _ _ _ _ :: _) _ _); refine wl_stA (s := shModel) (cs := c10) rfl rfl rfl rfl (by first | exact heap_alloc_new _ _ | exact heap_alloc_old2 _ _ _) rfl hxc10.out hyc10.out (by decide) ?_; intro wc11 cx11 ch11; have E11 := (Ext.of_chg1 ch11); have mc11 := s; replace e0 := e0.trans (E11); replace s := Nat.le_trans s (Ext.size (E11)); replace c0 := c0.ext (E11); replace c1 := c1.ext (E11); replace o6_0 := o6_0.ext (E11); replace cx7 := cx7.ext (E11); replace o8 := o8.ext (E11); replace cx9 := cx9.ext (E11); replace o10 := o10.ext (E11); replace r0 := h0.ext e0; replace r1 := h1.ext e0; have vl11 := Cs.blkLt cx11 (by rw [hxc10.out]; decide); obtain ⟨Nc11, hNc11⟩ : ∃ N, N = wc11.heap.size := ⟨_, rfl⟩; rw [← hNc11] at vl11; have s := Nat.le_of_eq hNc11; clear E11 ch11) | ((with_reducible show wpList _ _ _ (Oper.mk _ (Op.load _ _) _ _ _ _ :: _) _ _); refine wl_ldAw (s := shModel) (cs := c10) (by first | rfl | (go_simp; done) | (go_simp; omega)) rfl rfl cx11 hxc10.out ?_))
  refine (K.out c8 c10 _ o8.rep o10.rep f0 f1).mono ?_
  rintro e w12 ⟨c12_0, b12_0, rfl, o12_0, nd12_0, lo12_0, _, e12⟩
  dsimp only at o12_0
  have m12 := s
  have sz12 := Ext.size e12
  have lt12_0 := Own.lt o12_0
  replace e0 := e0.trans (e12)
  replace s := Nat.le_trans s (Ext.size (e12))
  replace c0 := c0.ext (e12)
  replace c1 := c1.ext (e12)
  replace o6_0 := o6_0.ext (e12)
  replace cx7 := cx7.ext (e12)
  replace o8 := o8.ext (e12)
  replace cx9 := cx9.ext (e12)
  replace o10 := o10.ext (e12)
  replace cx11 := cx11.ext (e12)
  replace r0 := h0.ext e0
  replace r1 := h1.ext e0
  clear e12
  obtain ⟨N12, hN12⟩ : ∃ N, N = w12.heap.size := ⟨_, rfl⟩
  rw [← hN12] at sz12 lt12_0
  have s := Nat.le_of_eq hN12
  have hxc12_0 := hid o12_0.rep.size
  have hyc12_0 := hid o12_0.rep.one
  go_wp2_with (first | ((with_reducible show wpList _ _ _ (Oper.mk _ (Op.load _ _) _ _ _ _ :: _) _ _); refine wl_ldAw (s := shModel) (cs := cs0) (by first | rfl | (go_simp; done) | (go_simp; omega)) rfl rfl c0 hl0.out ?_) | ((with_reducible show wpList _ _ _ (Oper.mk _ (Op.load _ _) _ _ _ _ :: _) _ _); refine wl_ldAw (s := shModel) (cs := cs1) (by first | rfl | (go_simp; done) | (go_simp; omega)) rfl rfl c1 hl1.out ?_) | ((with_reducible show wpList _ _ _ (Oper.mk _ (Op.load _ _) _ _ _ _ :: _) _ _); refine wl_ldAw (s := shModel) (cs := c6_0) (by first | rfl | (go_simp; done) | (go_simp; omega)) rfl rfl cx7 hxc6_0.out ?_) | ((with_reducible show wpList _ _ _ (Oper.mk _ (Op.load _ _) _ _ _ _ :: _) _ _); refine wl_ldAw (s := shModel) (cs := c8) (by first | rfl | (go_simp; done) | (go_simp; omega)) rfl rfl cx9 hxc8.out ?_) | ((with_reducible show wpList _ _ _ (Oper.mk _ (Op.load _ _) _ _ _ _ :: _) _ _); refine wl_ldAw (s := shModel) (cs := c10) (by first | rfl | (go_simp; done) | (go_simp; omega)) rfl rfl cx11 hxc10.out ?_) | ((with_reducible show wpList _ _ _ (Oper.mk _ (Op.store _ _ _) _ _ _ _ :: _) _ _); refine wl_stA (s := shModel) (cs := c12_0) rfl rfl rfl rfl (by first | exact heap_alloc_new _ _ | exact heap_alloc_old2 _ _ _) rfl hxc12_0.out hyc12_0.out (by decide) ?_; intro wc13 cx13 ch13; have E13 := (Ext.of_chg1 ch13); have mc13 := s; replace e0 := e0.trans (E13); replace s := Nat.le_trans s (Ext.size (E13)); replace c0 := c0.ext (E13); replace c1 := c1.ext (E13); replace o6_0 := o6_0.ext (E13); replace cx7 := cx7.ext (E13); replace o8 := o8.ext (E13); replace cx9 := cx9.ext (E13); replace o10 := o10.ext (E13); replace cx11 := cx11.ext (E13); replace o12_0 := o12_0.ext (E13); replace r0 := h0.ext e0; replace r1 := h1.ext e0; have vl13 := Cs.blkLt cx13 (by rw [hxc12_0.out]; decide); obtain ⟨Nc13, hNc13⟩ : ∃ N, N = wc13.heap.size := ⟨_, rfl⟩; rw [← hNc13] at vl13; have s := Nat.le_of_eq hNc13; clear E13 ch13) | ((with_reducible show wpList _ _ _ (Oper.mk _ (Op.load _ _) _ _ _ _ :: _) _ _); refine wl_ldAw (s := shModel) (cs := c12_0) (by first | rfl | (go_simp; done) | (go_simp; omega)) rfl rfl cx13 hxc12_0.out ?_))
  refine (eqModel_ok c12_0 c6_0 R0 _ (o12_0.rep) (o6_0.rep) hbr0).mono ?_
  rintro e w14 ⟨rfl, e14⟩
  replace e0 := e0.trans (e14)
  replace s := Nat.le_trans s (Ext.size (e14))
  replace c0 := c0.ext (e14)
  replace c1 := c1.ext (e14)
  replace o6_0 := o6_0.ext (e14)
  replace cx7 := cx7.ext (e14)
  replace o8 := o8.ext (e14)
  replace cx9 := cx9.ext (e14)
  replace o10 := o10.ext (e14)
  replace cx11 := cx11.ext (e14)
  replace o12_0 := o12_0.ext (e14)
  replace cx13 := cx13.ext (e14)
  replace r0 := h0.ext e0
  replace r1 := h1.ext e0
  clear e14
  go_wp2_with (first | ((with_reducible show wpList _ _ _ (Oper.mk _ (Op.load _ _) _ _ _ _ :: _) _ _); refine wl_ldAw (s := shModel) (cs := cs0) (by first | rfl | (go_simp; done) | (go_simp; omega)) rfl rfl c0 hl0.out ?_) | ((with_reducible show wpList _ _ _ (Oper.mk _ (Op.load _ _) _ _ _ _ :: _) _ _); refine wl_ldAw (s := shModel) (cs := cs1) (by first | rfl | (go_simp; done) | (go_simp; omega)) rfl rfl c1 hl1.out ?_) | ((with_reducible show wpList _ _ _ (Oper.mk _ (Op.load _ _) _ _ _ _ :: _) _ _); refine wl_ldAw (s := shModel) (cs := c6_0) (by first | rfl | (go_simp; done) | (go_simp; omega)) rfl rfl cx7 hxc6_0.out ?_) | ((with_reducible show wpList _ _ _ (Oper.mk _ (Op.load _ _) _ _ _ _ :: _) _ _); refine wl_ldAw (s := shModel) (cs := c8) (by first | rfl | (go_simp; done) | (go_simp; omega)) rfl rfl cx9 hxc8.out ?_) | ((with_reducible show wpList _ _ _ (Oper.mk _ (Op.load _ _) _ _ _ _ :: _) _ _); refine wl_ldAw (s := shModel) (cs := c10) (by first | rfl | (go_simp; done) | (go_simp; omega)) rfl rfl cx11 hxc10.out ?_) | ((with_reducible show wpList _ _ _ (Oper.mk _ (Op.load _ _) _ _ _ _ :: _) _ _); refine wl_ldAw (s := shModel) (cs := c12_0) (by first | rfl | (go_simp; done) | (go_simp; omega)) rfl rfl cx13 hxc12_0.out ?_))
  replace e0 := e0.trans ((Ext.drew _))
  replace s := Nat.le_trans s (Ext.size ((Ext.drew _)))
  replace c0 := c0.ext ((Ext.drew _))
  replace c1 := c1.ext ((Ext.drew _))
  replace o6_0 := o6_0.ext ((Ext.drew _))
  replace cx7 := cx7.ext ((Ext.drew _))
  replace o8 := o8.ext ((Ext.drew _))
  replace cx9 := cx9.ext ((Ext.drew _))
  replace o10 := o10.ext ((Ext.drew _))
  replace cx11 := cx11.ext ((Ext.drew _))
  replace o12_0 := o12_0.ext ((Ext.drew _))
  replace cx13 := cx13.ext ((Ext.drew _))
  replace r0 := h0.ext e0
  replace r1 := h1.ext e0
  obtain ⟨F15, hF15⟩ : ∃ F : Option Tmp → World → Value → Prop, F = fun d W u => (match d with | some 56 => ∃ cs', u = ofCs shModel cs' ∧ Rep W shModel cs' D0 | _ => True) := ⟨_, rfl⟩
  have HF15 := hid hF15
  clear hF15
  refine wp_region_xt 3 (F := F15) (by kernel_rfl) (by kernel_rfl) (by kernel_rfl) (by kernel_rfl) (by kernel_rfl) ?_
  intro wf hwf
  simp only [List.take_succ_cons, List.take_zero, List.drop_succ_cons, List.drop_zero]
  first | (refine x_ldA (s := shModel) (cs := cs0) rfl rfl rfl c0 hl0.out ?_) | (refine x_ldA (s := shModel) (cs := cs1) rfl rfl rfl c1 hl1.out ?_) | (refine x_ldA (s := shModel) (cs := c6_0) rfl rfl rfl cx7 hxc6_0.out ?_) | (refine x_ldA (s := shModel) (cs := c8) rfl rfl rfl cx9 hxc8.out ?_) | (refine x_ldA (s := shModel) (cs := c10) rfl rfl rfl cx11 hxc10.out ?_) | (refine x_ldA (s := shModel) (cs := c12_0) rfl rfl rfl cx13 hxc12_0.out ?_)
  simp only [Act.put, ev_tmp, List.setIfInBounds_toArray, List.set_cons_succ, List.set_cons_zero, List.getD_cons_succ, List.getD_cons_zero]
  first | (refine x_ldA (s := shModel) (cs := cs0) rfl rfl rfl c0 hl0.out ?_) | (refine x_ldA (s := shModel) (cs := cs1) rfl rfl rfl c1 hl1.out ?_) | (refine x_ldA (s := shModel) (cs := c6_0) rfl rfl rfl cx7 hxc6_0.out ?_) | (refine x_ldA (s := shModel) (cs := c8) rfl rfl rfl cx9 hxc8.out ?_) | (refine x_ldA (s := shModel) (cs := c10) rfl rfl rfl cx11 hxc10.out ?_) | (refine x_ldA (s := shModel) (cs := c12_0) rfl rfl rfl cx13 hxc12_0.out ?_)
  simp only [Act.put, ev_tmp, List.setIfInBounds_toArray, List.set_cons_succ, List.set_cons_zero, List.getD_cons_succ, List.getD_cons_zero]
  refine x_callf (f := 16) (args := #[ofCs shModel cs0]) rfl rfl Try.func16 rfl (by kernel_rfl) ?_ ?_ ?_; (focus (simp [Act.eval]; done)); (focus (intro w1 hw1; exact ((toModel_ok cs0 D0 w1 (r0.ext hw1) hb0).mono fun e w3 ⟨cs3, bs3, g1, g2, _, _, g3⟩ => ⟨_, g1, g3, by rw [HF15.out]; exact ⟨cs3, rfl, g2.rep⟩⟩))); rintro u w3 e3 e4 hu; simp only [HF15.out] at hu; obtain ⟨cz16, rfl, rz16⟩ := hu; replace rz16 := rz16.ext e4
  simp only [Act.put, ev_tmp, List.setIfInBounds_toArray, List.set_cons_succ, List.set_cons_zero, List.getD_cons_succ, List.getD_cons_zero]
  refine x_nil ?_
  replace e0 := e0.trans (hwf)
  replace s := Nat.le_trans s (Ext.size (hwf))
  replace c0 := c0.ext (hwf)
  replace c1 := c1.ext (hwf)
  replace o6_0 := o6_0.ext (hwf)
  replace cx7 := cx7.ext (hwf)
  replace o8 := o8.ext (hwf)
  replace cx9 := cx9.ext (hwf)
  replace o10 := o10.ext (hwf)
  replace cx11 := cx11.ext (hwf)
  replace o12_0 := o12_0.ext (hwf)
  replace cx13 := cx13.ext (hwf)
  replace r0 := h0.ext e0
  replace r1 := h1.ext e0
  clear hwf
  go_wp2_with fail
  refine (eqModel_ok c8 cz16 D0 _ (o8.rep) (rz16) hb0).mono ?_
  rintro e w17 ⟨rfl, e17⟩
  replace e0 := e0.trans (e17)
  replace s := Nat.le_trans s (Ext.size (e17))
  replace c0 := c0.ext (e17)
  replace c1 := c1.ext (e17)
  replace o6_0 := o6_0.ext (e17)
  replace cx7 := cx7.ext (e17)
  replace o8 := o8.ext (e17)
  replace cx9 := cx9.ext (e17)
  replace o10 := o10.ext (e17)
  replace cx11 := cx11.ext (e17)
  replace o12_0 := o12_0.ext (e17)
  replace cx13 := cx13.ext (e17)
  replace rz16 := rz16.ext (e17)
  replace r0 := h0.ext e0
  replace r1 := h1.ext e0
  clear e17
  go_wp2_with (first | ((with_reducible show wpList _ _ _ (Oper.mk _ (Op.load _ _) _ _ _ _ :: _) _ _); refine wl_ldAw (s := shModel) (cs := cs0) (by first | rfl | (go_simp; done) | (go_simp; omega)) rfl rfl c0 hl0.out ?_) | ((with_reducible show wpList _ _ _ (Oper.mk _ (Op.load _ _) _ _ _ _ :: _) _ _); refine wl_ldAw (s := shModel) (cs := cs1) (by first | rfl | (go_simp; done) | (go_simp; omega)) rfl rfl c1 hl1.out ?_) | ((with_reducible show wpList _ _ _ (Oper.mk _ (Op.load _ _) _ _ _ _ :: _) _ _); refine wl_ldAw (s := shModel) (cs := c6_0) (by first | rfl | (go_simp; done) | (go_simp; omega)) rfl rfl cx7 hxc6_0.out ?_) | ((with_reducible show wpList _ _ _ (Oper.mk _ (Op.load _ _) _ _ _ _ :: _) _ _); refine wl_ldAw (s := shModel) (cs := c8) (by first | rfl | (go_simp; done) | (go_simp; omega)) rfl rfl cx9 hxc8.out ?_) | ((with_reducible show wpList _ _ _ (Oper.mk _ (Op.load _ _) _ _ _ _ :: _) _ _); refine wl_ldAw (s := shModel) (cs := c10) (by first | rfl | (go_simp; done) | (go_simp; omega)) rfl rfl cx11 hxc10.out ?_) | ((with_reducible show wpList _ _ _ (Oper.mk _ (Op.load _ _) _ _ _ _ :: _) _ _); refine wl_ldAw (s := shModel) (cs := c12_0) (by first | rfl | (go_simp; done) | (go_simp; omega)) rfl rfl cx13 hxc12_0.out ?_))
  replace e0 := e0.trans ((Ext.drew _))
  replace s := Nat.le_trans s (Ext.size ((Ext.drew _)))
  replace c0 := c0.ext ((Ext.drew _))
  replace c1 := c1.ext ((Ext.drew _))
  replace o6_0 := o6_0.ext ((Ext.drew _))
  replace cx7 := cx7.ext ((Ext.drew _))
  replace o8 := o8.ext ((Ext.drew _))
  replace cx9 := cx9.ext ((Ext.drew _))
  replace o10 := o10.ext ((Ext.drew _))
  replace cx11 := cx11.ext ((Ext.drew _))
  replace o12_0 := o12_0.ext ((Ext.drew _))
  replace cx13 := cx13.ext ((Ext.drew _))
  replace rz16 := rz16.ext ((Ext.drew _))
  replace r0 := h0.ext e0
  replace r1 := h1.ext e0
  obtain ⟨F18, hF18⟩ : ∃ F : Option Tmp → World → Value → Prop, F = fun d W u => (match d with | some 61 => ∃ cs', u = ofCs shModel cs' ∧ Rep W shModel cs' D1 | _ => True) := ⟨_, rfl⟩
  have HF18 := hid hF18
  clear hF18
  refine wp_region_xt 3 (F := F18) (by kernel_rfl) (by kernel_rfl) (by kernel_rfl) (by kernel_rfl) (by kernel_rfl) ?_
  intro wf hwf
  simp only [List.take_succ_cons, List.take_zero, List.drop_succ_cons, List.drop_zero]
  first | (refine x_ldA (s := shModel) (cs := cs0) rfl rfl rfl c0 hl0.out ?_) | (refine x_ldA (s := shModel) (cs := cs1) rfl rfl rfl c1 hl1.out ?_) | (refine x_ldA (s := shModel) (cs := c6_0) rfl rfl rfl cx7 hxc6_0.out ?_) | (refine x_ldA (s := shModel) (cs := c8) rfl rfl rfl cx9 hxc8.out ?_) | (refine x_ldA (s := shModel) (cs := c10) rfl rfl rfl cx11 hxc10.out ?_) | (refine x_ldA (s := shModel) (cs := c12_0) rfl rfl rfl cx13 hxc12_0.out ?_)
  simp only [Act.put, ev_tmp, List.setIfInBounds_toArray, List.set_cons_succ, List.set_cons_zero, List.getD_cons_succ, List.getD_cons_zero]
  first | (refine x_ldA (s := shModel) (cs := cs0) rfl rfl rfl c0 hl0.out ?_) | (refine x_ldA (s := shModel) (cs := cs1) rfl rfl rfl c1 hl1.out ?_) | (refine x_ldA (s := shModel) (cs := c6_0) rfl rfl rfl cx7 hxc6_0.out ?_) | (refine x_ldA (s := shModel) (cs := c8) rfl rfl rfl cx9 hxc8.out ?_) | (refine x_ldA (s := shModel) (cs := c10) rfl rfl rfl cx11 hxc10.out ?_) | (refine x_ldA (s := shModel) (cs := c12_0) rfl rfl rfl cx13 hxc12_0.out ?_)
  simp only [Act.put, ev_tmp, List.setIfInBounds_toArray, List.set_cons_succ, List.set_cons_zero, List.getD_cons_succ, List.getD_cons_zero]
  refine x_callf (f := 16) (args := #[ofCs shModel cs1]) rfl rfl Try.func16 rfl (by kernel_rfl) ?_ ?_ ?_; (focus (simp [Act.eval]; done)); (focus (intro w1 hw1; exact ((toModel_ok cs1 D1 w1 (r1.ext hw1) hb1).mono fun e w3 ⟨cs3, bs3, g1, g2, _, _, g3⟩ => ⟨_, g1, g3, by rw [HF18.out]; exact ⟨cs3, rfl, g2.rep⟩⟩))); rintro u w3 e3 e4 hu; simp only [HF18.out] at hu; obtain ⟨cz19, rfl, rz19⟩ := hu; replace rz19 := rz19.ext e4
  simp only [Act.put, ev_tmp, List.setIfInBounds_toArray, List.set_cons_succ, List.set_cons_zero, List.getD_cons_succ, List.getD_cons_zero]
  refine x_nil ?_
  replace e0 := e0.trans (hwf)
  replace s := Nat.le_trans s (Ext.size (hwf))
  replace c0 := c0.ext (hwf)
  replace c1 := c1.ext (hwf)
  replace o6_0 := o6_0.ext (hwf)
  replace cx7 := cx7.ext (hwf)
  replace o8 := o8.ext (hwf)
  replace cx9 := cx9.ext (hwf)
  replace o10 := o10.ext (hwf)
  replace cx11 := cx11.ext (hwf)
  replace o12_0 := o12_0.ext (hwf)
  replace cx13 := cx13.ext (hwf)
  replace rz16 := rz16.ext (hwf)
  replace r0 := h0.ext e0
  replace r1 := h1.ext e0
  clear hwf
  go_wp2_with fail
  refine (eqModel_ok c10 cz19 D1 _ (o10.rep) (rz19) hb1).mono ?_
  rintro e w20 ⟨rfl, e20⟩
  replace e0 := e0.trans (e20)
  replace s := Nat.le_trans s (Ext.size (e20))
  replace c0 := c0.ext (e20)
  replace c1 := c1.ext (e20)
  replace o6_0 := o6_0.ext (e20)
  replace cx7 := cx7.ext (e20)
  replace o8 := o8.ext (e20)
  replace cx9 := cx9.ext (e20)
  replace o10 := o10.ext (e20)
  replace cx11 := cx11.ext (e20)
  replace o12_0 := o12_0.ext (e20)
  replace cx13 := cx13.ext (e20)
  replace rz16 := rz16.ext (e20)
  replace rz19 := rz19.ext (e20)
  replace r0 := h0.ext e0
  replace r1 := h1.ext e0
  clear e20
  go_wp2_with (first | ((with_reducible show wpList _ _ _ (Oper.mk _ (Op.load _ _) _ _ _ _ :: _) _ _); refine wl_ldAw (s := shModel) (cs := cs0) (by first | rfl | (go_simp; done) | (go_simp; omega)) rfl rfl c0 hl0.out ?_) | ((with_reducible show wpList _ _ _ (Oper.mk _ (Op.load _ _) _ _ _ _ :: _) _ _); refine wl_ldAw (s := shModel) (cs := cs1) (by first | rfl | (go_simp; done) | (go_simp; omega)) rfl rfl c1 hl1.out ?_) | ((with_reducible show wpList _ _ _ (Oper.mk _ (Op.load _ _) _ _ _ _ :: _) _ _); refine wl_ldAw (s := shModel) (cs := c6_0) (by first | rfl | (go_simp; done) | (go_simp; omega)) rfl rfl cx7 hxc6_0.out ?_) | ((with_reducible show wpList _ _ _ (Oper.mk _ (Op.load _ _) _ _ _ _ :: _) _ _); refine wl_ldAw (s := shModel) (cs := c8) (by first | rfl | (go_simp; done) | (go_simp; omega)) rfl rfl cx9 hxc8.out ?_) | ((with_reducible show wpList _ _ _ (Oper.mk _ (Op.load _ _) _ _ _ _ :: _) _ _); refine wl_ldAw (s := shModel) (cs := c10) (by first | rfl | (go_simp; done) | (go_simp; omega)) rfl rfl cx11 hxc10.out ?_) | ((with_reducible show wpList _ _ _ (Oper.mk _ (Op.load _ _) _ _ _ _ :: _) _ _); refine wl_ldAw (s := shModel) (cs := c12_0) (by first | rfl | (go_simp; done) | (go_simp; omega)) rfl rfl cx13 hxc12_0.out ?_))
  have mb21 := mkV_bd shModel (by decide) D0 1
  refine (markModel_ok c8 D0 b8 1 _ o8 nd8 (by omega) (by omega)).mono ?_
  rintro e w21 ⟨rfl, o21m, ch21⟩
  replace e0 := e0.chg ch21 fun b hb => by have := lo8 b hb; omega
  replace s := Nat.le_trans s (Chg.size ch21)
  replace c0 := Cs.chgB c0 ch21 (Cs.blkLt c0 (by rw [hl0.out]; decide)) (fun h => by have := lo8 _ h; have := lt8 _ h; omega)
  replace c1 := Cs.chgB c1 ch21 (Cs.blkLt c1 (by rw [hl1.out]; decide)) (fun h => by have := lo8 _ h; have := lt8 _ h; omega)
  replace o6_0 := o6_0.chg ch21 (fun b hb h => by have := lo6_0 b hb; have := lt6_0 b hb; have := lo8 b h; have := lt8 b h; omega)
  replace cx7 := Cs.chgB cx7 ch21 (Cs.blkLt cx7 (by rw [hxc6_0.out]; decide)) (fun h => by have := lo8 _ h; have := lt8 _ h; omega)
  replace cx9 := Cs.chgB cx9 ch21 (Cs.blkLt cx9 (by rw [hxc8.out]; decide)) (fun h => by have := lo8 _ h; have := lt8 _ h; omega)
  replace o10 := o10.chg ch21 (fun b hb h => by have := lo10 b hb; have := lt10 b hb; have := lo8 b h; have := lt8 b h; omega)
  replace cx11 := Cs.chgB cx11 ch21 (Cs.blkLt cx11 (by rw [hxc10.out]; decide)) (fun h => by have := lo8 _ h; have := lt8 _ h; omega)
  replace o12_0 := o12_0.chg ch21 (fun b hb h => by have := lo12_0 b hb; have := lt12_0 b hb; have := lo8 b h; have := lt8 b h; omega)
  replace cx13 := Cs.chgB cx13 ch21 (Cs.blkLt cx13 (by rw [hxc12_0.out]; decide)) (fun h => by have := lo8 _ h; have := lt8 _ h; omega)
  clear rz16
  clear rz19
  replace r0 := h0.ext e0
  replace r1 := h1.ext e0
  clear o8 ch21
  obtain ⟨k21, hk21⟩ : ∃ k, k = (mkV shModel D0 1).2 := ⟨_, rfl⟩
  rw [← hk21] at mb21 ⊢
  have HK21 := hid hk21
  clear hk21
  go_wp2_with (first | ((with_reducible show wpList _ _ _ (Oper.mk _ (Op.load _ _) _ _ _ _ :: _) _ _); refine wl_ldAw (s := shModel) (cs := cs0) (by first | rfl | (go_simp; done) | (go_simp; omega)) rfl rfl c0 hl0.out ?_) | ((with_reducible show wpList _ _ _ (Oper.mk _ (Op.load _ _) _ _ _ _ :: _) _ _); refine wl_ldAw (s := shModel) (cs := cs1) (by first | rfl | (go_simp; done) | (go_simp; omega)) rfl rfl c1 hl1.out ?_) | ((with_reducible show wpList _ _ _ (Oper.mk _ (Op.load _ _) _ _ _ _ :: _) _ _); refine wl_ldAw (s := shModel) (cs := c6_0) (by first | rfl | (go_simp; done) | (go_simp; omega)) rfl rfl cx7 hxc6_0.out ?_) | ((with_reducible show wpList _ _ _ (Oper.mk _ (Op.load _ _) _ _ _ _ :: _) _ _); refine wl_ldAw (s := shModel) (cs := c8) (by first | rfl | (go_simp; done) | (go_simp; omega)) rfl rfl cx9 hxc8.out ?_) | ((with_reducible show wpList _ _ _ (Oper.mk _ (Op.load _ _) _ _ _ _ :: _) _ _); refine wl_ldAw (s := shModel) (cs := c10) (by first | rfl | (go_simp; done) | (go_simp; omega)) rfl rfl cx11 hxc10.out ?_) | ((with_reducible show wpList _ _ _ (Oper.mk _ (Op.load _ _) _ _ _ _ :: _) _ _); refine wl_ldAw (s := shModel) (cs := c12_0) (by first | rfl | (go_simp; done) | (go_simp; omega)) rfl rfl cx13 hxc12_0.out ?_))
  have mb22 := mkV_bd shModel (by decide) D1 k21
  refine (markModel_ok c10 D1 b10 k21 _ o10 nd10 (by omega) (by omega)).mono ?_
  rintro e w22 ⟨rfl, o22m, ch22⟩
  replace e0 := e0.chg ch22 fun b hb => by have := lo10 b hb; omega
  replace s := Nat.le_trans s (Chg.size ch22)
  replace c0 := Cs.chgB c0 ch22 (Cs.blkLt c0 (by rw [hl0.out]; decide)) (fun h => by have := lo10 _ h; have := lt10 _ h; omega)
  replace c1 := Cs.chgB c1 ch22 (Cs.blkLt c1 (by rw [hl1.out]; decide)) (fun h => by have := lo10 _ h; have := lt10 _ h; omega)
  replace o6_0 := o6_0.chg ch22 (fun b hb h => by have := lo6_0 b hb; have := lt6_0 b hb; have := lo10 b h; have := lt10 b h; omega)
  replace cx7 := Cs.chgB cx7 ch22 (Cs.blkLt cx7 (by rw [hxc6_0.out]; decide)) (fun h => by have := lo10 _ h; have := lt10 _ h; omega)
  replace cx9 := Cs.chgB cx9 ch22 (Cs.blkLt cx9 (by rw [hxc8.out]; decide)) (fun h => by have := lo10 _ h; have := lt10 _ h; omega)
  replace cx11 := Cs.chgB cx11 ch22 (Cs.blkLt cx11 (by rw [hxc10.out]; decide)) (fun h => by have := lo10 _ h; have := lt10 _ h; omega)
  replace o12_0 := o12_0.chg ch22 (fun b hb h => by have := lo12_0 b hb; have := lt12_0 b hb; have := lo10 b h; have := lt10 b h; omega)
  replace cx13 := Cs.chgB cx13 ch22 (Cs.blkLt cx13 (by rw [hxc12_0.out]; decide)) (fun h => by have := lo10 _ h; have := lt10 _ h; omega)
  replace o21m := o21m.chg ch22 (fun b hb h => by have := lo8 b hb; have := lt8 b hb; have := lo10 b h; have := lt10 b h; omega)
  replace r0 := h0.ext e0
  replace r1 := h1.ext e0
  clear o10 ch22
  obtain ⟨k22, hk22⟩ : ∃ k, k = (mkV shModel D1 k21).2 := ⟨_, rfl⟩
  rw [← hk22] at mb22 ⊢
  have HK22 := hid hk22
  clear hk22
  go_wp2_with (first | ((with_reducible show wpList _ _ _ (Oper.mk _ (Op.load _ _) _ _ _ _ :: _) _ _); refine wl_ldAw (s := shModel) (cs := cs0) (by first | rfl | (go_simp; done) | (go_simp; omega)) rfl rfl c0 hl0.out ?_) | ((with_reducible show wpList _ _ _ (Oper.mk _ (Op.load _ _) _ _ _ _ :: _) _ _); refine wl_ldAw (s := shModel) (cs := cs1) (by first | rfl | (go_simp; done) | (go_simp; omega)) rfl rfl c1 hl1.out ?_) | ((with_reducible show wpList _ _ _ (Oper.mk _ (Op.load _ _) _ _ _ _ :: _) _ _); refine wl_ldAw (s := shModel) (cs := c6_0) (by first | rfl | (go_simp; done) | (go_simp; omega)) rfl rfl cx7 hxc6_0.out ?_) | ((with_reducible show wpList _ _ _ (Oper.mk _ (Op.load _ _) _ _ _ _ :: _) _ _); refine wl_ldAw (s := shModel) (cs := c8) (by first | rfl | (go_simp; done) | (go_simp; omega)) rfl rfl cx9 hxc8.out ?_) | ((with_reducible show wpList _ _ _ (Oper.mk _ (Op.load _ _) _ _ _ _ :: _) _ _); refine wl_ldAw (s := shModel) (cs := c10) (by first | rfl | (go_simp; done) | (go_simp; omega)) rfl rfl cx11 hxc10.out ?_) | ((with_reducible show wpList _ _ _ (Oper.mk _ (Op.load _ _) _ _ _ _ :: _) _ _); refine wl_ldAw (s := shModel) (cs := c12_0) (by first | rfl | (go_simp; done) | (go_simp; omega)) rfl rfl cx13 hxc12_0.out ?_))
  refine (eqModel_ok c12_0 c6_0 R0 _ (o12_0.rep) (o6_0.rep) hbr0).mono ?_
  rintro e w23 ⟨rfl, e23⟩
  replace e0 := e0.trans (e23)
  replace s := Nat.le_trans s (Ext.size (e23))
  replace c0 := c0.ext (e23)
  replace c1 := c1.ext (e23)
  replace o6_0 := o6_0.ext (e23)
  replace cx7 := cx7.ext (e23)
  replace cx9 := cx9.ext (e23)
  replace cx11 := cx11.ext (e23)
  replace o12_0 := o12_0.ext (e23)
  replace cx13 := cx13.ext (e23)
  replace o21m := o21m.ext (e23)
  replace o22m := o22m.ext (e23)
  replace r0 := h0.ext e0
  replace r1 := h1.ext e0
  clear e23
  go_wp2_with (first | ((with_reducible show wpList _ _ _ (Oper.mk _ (Op.load _ _) _ _ _ _ :: _) _ _); refine wl_ldAw (s := shModel) (cs := cs0) (by first | rfl | (go_simp; done) | (go_simp; omega)) rfl rfl c0 hl0.out ?_) | ((with_reducible show wpList _ _ _ (Oper.mk _ (Op.load _ _) _ _ _ _ :: _) _ _); refine wl_ldAw (s := shModel) (cs := cs1) (by first | rfl | (go_simp; done) | (go_simp; omega)) rfl rfl c1 hl1.out ?_) | ((with_reducible show wpList _ _ _ (Oper.mk _ (Op.load _ _) _ _ _ _ :: _) _ _); refine wl_ldAw (s := shModel) (cs := c6_0) (by first | rfl | (go_simp; done) | (go_simp; omega)) rfl rfl cx7 hxc6_0.out ?_) | ((with_reducible show wpList _ _ _ (Oper.mk _ (Op.load _ _) _ _ _ _ :: _) _ _); refine wl_ldAw (s := shModel) (cs := c8) (by first | rfl | (go_simp; done) | (go_simp; omega)) rfl rfl cx9 hxc8.out ?_) | ((with_reducible show wpList _ _ _ (Oper.mk _ (Op.load _ _) _ _ _ _ :: _) _ _); refine wl_ldAw (s := shModel) (cs := c10) (by first | rfl | (go_simp; done) | (go_simp; omega)) rfl rfl cx11 hxc10.out ?_) | ((with_reducible show wpList _ _ _ (Oper.mk _ (Op.load _ _) _ _ _ _ :: _) _ _); refine wl_ldAw (s := shModel) (cs := c12_0) (by first | rfl | (go_simp; done) | (go_simp; omega)) rfl rfl cx13 hxc12_0.out ?_))
  have mb24 := mkV_bd shModel (by decide) R0 1
  refine (markModel_ok c12_0 R0 b12_0 1 _ o12_0 nd12_0 (by omega) (by omega)).mono ?_
  rintro e w24 ⟨rfl, o24m, ch24⟩
  replace e0 := e0.chg ch24 fun b hb => by have := lo12_0 b hb; omega
  replace s := Nat.le_trans s (Chg.size ch24)
  replace c0 := Cs.chgB c0 ch24 (Cs.blkLt c0 (by rw [hl0.out]; decide)) (fun h => by have := lo12_0 _ h; have := lt12_0 _ h; omega)
  replace c1 := Cs.chgB c1 ch24 (Cs.blkLt c1 (by rw [hl1.out]; decide)) (fun h => by have := lo12_0 _ h; have := lt12_0 _ h; omega)
  replace o6_0 := o6_0.chg ch24 (fun b hb h => by have := lo6_0 b hb; have := lt6_0 b hb; have := lo12_0 b h; have := lt12_0 b h; omega)
  replace cx7 := Cs.chgB cx7 ch24 (Cs.blkLt cx7 (by rw [hxc6_0.out]; decide)) (fun h => by have := lo12_0 _ h; have := lt12_0 _ h; omega)
  replace cx9 := Cs.chgB cx9 ch24 (Cs.blkLt cx9 (by rw [hxc8.out]; decide)) (fun h => by have := lo12_0 _ h; have := lt12_0 _ h; omega)
  replace cx11 := Cs.chgB cx11 ch24 (Cs.blkLt cx11 (by rw [hxc10.out]; decide)) (fun h => by have := lo12_0 _ h; have := lt12_0 _ h; omega)
  replace cx13 := Cs.chgB cx13 ch24 (Cs.blkLt cx13 (by rw [hxc12_0.out]; decide)) (fun h => by have := lo12_0 _ h; have := lt12_0 _ h; omega)
  replace o21m := o21m.chg ch24 (fun b hb h => by have := lo8 b hb; have := lt8 b hb; have := lo12_0 b h; have := lt12_0 b h; omega)
  replace o22m := o22m.chg ch24 (fun b hb h => by have := lo10 b hb; have := lt10 b hb; have := lo12_0 b h; have := lt12_0 b h; omega)
  replace r0 := h0.ext e0
  replace r1 := h1.ext e0
  clear o12_0 ch24
  obtain ⟨k24, hk24⟩ : ∃ k, k = (mkV shModel R0 1).2 := ⟨_, rfl⟩
  rw [← hk24] at mb24 ⊢
  have HK24 := hid hk24
  clear hk24
  go_wp2_with (first | ((with_reducible show wpList _ _ _ (Oper.mk _ (Op.load _ _) _ _ _ _ :: _) _ _); refine wl_ldAw (s := shModel) (cs := cs0) (by first | rfl | (go_simp; done) | (go_simp; omega)) rfl rfl c0 hl0.out ?_) | ((with_reducible show wpList _ _ _ (Oper.mk _ (Op.load _ _) _ _ _ _ :: _) _ _); refine wl_ldAw (s := shModel) (cs := cs1) (by first | rfl | (go_simp; done) | (go_simp; omega)) rfl rfl c1 hl1.out ?_) | ((with_reducible show wpList _ _ _ (Oper.mk _ (Op.load _ _) _ _ _ _ :: _) _ _); refine wl_ldAw (s := shModel) (cs := c6_0) (by first | rfl | (go_simp; done) | (go_simp; omega)) rfl rfl cx7 hxc6_0.out ?_) | ((with_reducible show wpList _ _ _ (Oper.mk _ (Op.load _ _) _ _ _ _ :: _) _ _); refine wl_ldAw (s := shModel) (cs := c8) (by first | rfl | (go_simp; done) | (go_simp; omega)) rfl rfl cx9 hxc8.out ?_) | ((with_reducible show wpList _ _ _ (Oper.mk _ (Op.load _ _) _ _ _ _ :: _) _ _); refine wl_ldAw (s := shModel) (cs := c10) (by first | rfl | (go_simp; done) | (go_simp; omega)) rfl rfl cx11 hxc10.out ?_) | ((with_reducible show wpList _ _ _ (Oper.mk _ (Op.load _ _) _ _ _ _ :: _) _ _); refine wl_ldAw (s := shModel) (cs := c12_0) (by first | rfl | (go_simp; done) | (go_simp; omega)) rfl rfl cx13 hxc12_0.out ?_))
  refine (heldModel_ok c12_0 R0 1 _ o24m.rep (by omega) (by omega)).mono ?_
  rintro e w25 ⟨rfl, e25⟩
  replace e0 := e0.trans (e25)
  replace s := Nat.le_trans s (Ext.size (e25))
  replace c0 := c0.ext (e25)
  replace c1 := c1.ext (e25)
  replace o6_0 := o6_0.ext (e25)
  replace cx7 := cx7.ext (e25)
  replace cx9 := cx9.ext (e25)
  replace cx11 := cx11.ext (e25)
  replace cx13 := cx13.ext (e25)
  replace o21m := o21m.ext (e25)
  replace o22m := o22m.ext (e25)
  replace o24m := o24m.ext (e25)
  replace r0 := h0.ext e0
  replace r1 := h1.ext e0
  clear e25
  rw [← HK24.out]
  go_wp2_with (first | ((with_reducible show wpList _ _ _ (Oper.mk _ (Op.load _ _) _ _ _ _ :: _) _ _); refine wl_ldAw (s := shModel) (cs := cs0) (by first | rfl | (go_simp; done) | (go_simp; omega)) rfl rfl c0 hl0.out ?_) | ((with_reducible show wpList _ _ _ (Oper.mk _ (Op.load _ _) _ _ _ _ :: _) _ _); refine wl_ldAw (s := shModel) (cs := cs1) (by first | rfl | (go_simp; done) | (go_simp; omega)) rfl rfl c1 hl1.out ?_) | ((with_reducible show wpList _ _ _ (Oper.mk _ (Op.load _ _) _ _ _ _ :: _) _ _); refine wl_ldAw (s := shModel) (cs := c6_0) (by first | rfl | (go_simp; done) | (go_simp; omega)) rfl rfl cx7 hxc6_0.out ?_) | ((with_reducible show wpList _ _ _ (Oper.mk _ (Op.load _ _) _ _ _ _ :: _) _ _); refine wl_ldAw (s := shModel) (cs := c8) (by first | rfl | (go_simp; done) | (go_simp; omega)) rfl rfl cx9 hxc8.out ?_) | ((with_reducible show wpList _ _ _ (Oper.mk _ (Op.load _ _) _ _ _ _ :: _) _ _); refine wl_ldAw (s := shModel) (cs := c10) (by first | rfl | (go_simp; done) | (go_simp; omega)) rfl rfl cx11 hxc10.out ?_) | ((with_reducible show wpList _ _ _ (Oper.mk _ (Op.load _ _) _ _ _ _ :: _) _ _); refine wl_ldAw (s := shModel) (cs := c12_0) (by first | rfl | (go_simp; done) | (go_simp; omega)) rfl rfl cx13 hxc12_0.out ?_))
  replace e0 := e0.trans ((Ext.drew _))
  replace s := Nat.le_trans s (Ext.size ((Ext.drew _)))
  replace c0 := c0.ext ((Ext.drew _))
  replace c1 := c1.ext ((Ext.drew _))
  replace o6_0 := o6_0.ext ((Ext.drew _))
  replace cx7 := cx7.ext ((Ext.drew _))
  replace cx9 := cx9.ext ((Ext.drew _))
  replace cx11 := cx11.ext ((Ext.drew _))
  replace cx13 := cx13.ext ((Ext.drew _))
  replace o21m := o21m.ext ((Ext.drew _))
  replace o22m := o22m.ext ((Ext.drew _))
  replace o24m := o24m.ext ((Ext.drew _))
  replace r0 := h0.ext e0
  replace r1 := h1.ext e0
  obtain ⟨Nd26, hNd26, sNd26⟩ := ext_size e0
  rw [← hNd26] at s
  have md26 := s
  have s := sNd26
  obtain ⟨F26, hF26⟩ : ∃ F : Option Tmp → World → Value → Prop, F = fun d W u => (match d with | some 96 => ∃ cs', u = ofCs shModel cs' ∧ Rep W shModel cs' D0 | some 98 => ∃ cs', u = ofCs shModel cs' ∧ Rep W shModel cs' D1 | some 99 => ∃ cs' bs', u = .tuple #[ofCs shModel cs', .bool R1] ∧ Own W shModel cs' R0 bs' ∧ bs'.Nodup ∧ (∀ b ∈ bs', Nd26 ≤ b) ∧ (∀ b ∈ bs', ∀ Z, W.heap[b]? ≠ some (.cells Z 32)) | _ => True) := ⟨_, rfl⟩
  have HF26 := hid hF26
  clear hF26
  refine wp_region_xs 9 (F := F26) (by kernel_rfl) (by kernel_rfl) (by kernel_rfl) (by kernel_rfl) (by kernel_rfl) ?_
  intro wf hwf
  simp only [List.take_succ_cons, List.take_zero]
  first | (refine x_ldA (s := shModel) (cs := cs0) rfl rfl rfl c0 hl0.out ?_) | (refine x_ldA (s := shModel) (cs := cs1) rfl rfl rfl c1 hl1.out ?_) | (refine x_ldA (s := shModel) (cs := c6_0) rfl rfl rfl cx7 hxc6_0.out ?_) | (refine x_ldA (s := shModel) (cs := c8) rfl rfl rfl cx9 hxc8.out ?_) | (refine x_ldA (s := shModel) (cs := c10) rfl rfl rfl cx11 hxc10.out ?_) | (refine x_ldA (s := shModel) (cs := c12_0) rfl rfl rfl cx13 hxc12_0.out ?_)
  simp only [Act.put, ev_tmp, List.setIfInBounds_toArray, List.set_cons_succ, List.set_cons_zero, List.getD_cons_succ, List.getD_cons_zero]
  refine x_callf (f := 16) (args := #[ofCs shModel cs0]) rfl rfl Try.func16 rfl (by kernel_rfl) ?_ ?_ ?_; (focus (simp [Act.eval]; done)); (focus (intro w1 hw1; exact ((toModel_ok cs0 D0 w1 (r0.ext hw1) hb0).mono fun e w3 ⟨cs3, bs3, g1, g2, _, _, g3⟩ => ⟨_, g1, g3, by rw [HF26.out]; exact ⟨cs3, rfl, g2.rep⟩⟩))); rintro u w3 e3 e4 hu; simp only [HF26.out] at hu; obtain ⟨cz27, rfl, rz27⟩ := hu; clear rz27
  simp only [Act.put, ev_tmp, List.setIfInBounds_toArray, List.set_cons_succ, List.set_cons_zero, List.getD_cons_succ, List.getD_cons_zero]
  first | (refine x_ldA (s := shModel) (cs := cs0) rfl rfl rfl c0 hl0.out ?_) | (refine x_ldA (s := shModel) (cs := cs1) rfl rfl rfl c1 hl1.out ?_) | (refine x_ldA (s := shModel) (cs := c6_0) rfl rfl rfl cx7 hxc6_0.out ?_) | (refine x_ldA (s := shModel) (cs := c8) rfl rfl rfl cx9 hxc8.out ?_) | (refine x_ldA (s := shModel) (cs := c10) rfl rfl rfl cx11 hxc10.out ?_) | (refine x_ldA (s := shModel) (cs := c12_0) rfl rfl rfl cx13 hxc12_0.out ?_)
  simp only [Act.put, ev_tmp, List.setIfInBounds_toArray, List.set_cons_succ, List.set_cons_zero, List.getD_cons_succ, List.getD_cons_zero]
  refine x_callf (f := 16) (args := #[ofCs shModel cs1]) rfl rfl Try.func16 rfl (by kernel_rfl) ?_ ?_ ?_; (focus (simp [Act.eval]; done)); (focus (intro w1 hw1; exact ((toModel_ok cs1 D1 w1 (r1.ext hw1) hb1).mono fun e w3 ⟨cs3, bs3, g1, g2, _, _, g3⟩ => ⟨_, g1, g3, by rw [HF26.out]; exact ⟨cs3, rfl, g2.rep⟩⟩))); rintro u w3 e3 e4 hu; simp only [HF26.out] at hu; obtain ⟨cz28, rfl, rz28⟩ := hu; clear rz28
  simp only [Act.put, ev_tmp, List.setIfInBounds_toArray, List.set_cons_succ, List.set_cons_zero, List.getD_cons_succ, List.getD_cons_zero]
  refine x_callK (f := 70) (args := #[ofCs shModel cz27, ofCs shModel cz28]) rfl rfl Try.func70 rfl (by kernel_rfl) ?_ ?_ ?_; (focus (simp [Act.eval]; done)); (focus (intro w1 hw1 hK; exact (by (obtain ⟨wa0, ga0, gb0, gc0⟩ := known_call hK (j := 1) (d := 96) (by kernel_rfl) rfl rfl rfl rfl Try.func16 rfl (by kernel_rfl) (by simp); rw [HF26.out] at gc0; obtain ⟨ca0, hca0, ra0⟩ := gc0; have hcb0 : ofCs shModel cz27 = ofCs shModel ca0 := hca0; rw [hcb0]; obtain ⟨wa1, ga1, gb1, gc1⟩ := known_call hK (j := 3) (d := 98) (by kernel_rfl) rfl rfl rfl rfl Try.func16 rfl (by kernel_rfl) (by simp); rw [HF26.out] at gc1; obtain ⟨ca1, hca1, ra1⟩ := gc1; have hcb1 : ofCs shModel cz28 = ofCs shModel ca1 := hca1; rw [hcb1]; rw [HF26.out]; exact (K.out ca0 ca1 w1 (ra0.ext gb0) (ra1.ext gb1) f0 f1).mono fun e w3 ⟨cs3, bs3, g1, g2, g3, g4, g5, g6⟩ => ⟨_, g1, g6, ⟨cs3, bs3, rfl, g2, g3, fun b hb => Nat.le_trans (by rw [hNd26]; exact hw1.size) (g4 b hb), g5⟩⟩)))); rintro u w3 e3 e4 hu; simp only [HF26.out] at hu; obtain ⟨c29_0, b29_0, rfl, o29_0, nd29_0, lo29_0, tg29⟩ := hu; have tg29 := Own.tag_ext o29_0 tg29 e4; replace o29_0 := o29_0.ext e4
  simp only [Act.put, ev_tmp, List.setIfInBounds_toArray, List.set_cons_succ, List.set_cons_zero, List.getD_cons_succ, List.getD_cons_zero]
  refine x_mv rfl rfl rfl ?_
  simp only [Act.put, ev_tmp, List.setIfInBounds_toArray, List.set_cons_succ, List.set_cons_zero, List.getD_cons_succ, List.getD_cons_zero]
  refine x_run rfl fun K hK w1 _ => ?_
  go_simp
  refine hK _ ?_
  clear hK K
  refine x_run rfl fun K hK w1 _ => ?_
  go_simp
  refine hK _ ?_
  clear hK K
  refine x_alloc (t := 32) (Z := #[.slice none 0 0]) rfl (fun w1 => by go_simp) ?_
  intro bA26 hA1 hA2 hA3
  simp only [Act.put, ev_tmp, List.setIfInBounds_toArray, List.set_cons_succ, List.set_cons_zero, List.getD_cons_succ, List.getD_cons_zero]
  refine x_nil ?_
  replace e0 := e0.trans (hwf)
  replace s := Nat.le_trans s (Ext.size (hwf))
  replace c0 := c0.ext (hwf)
  replace c1 := c1.ext (hwf)
  replace o6_0 := o6_0.ext (hwf)
  replace cx7 := cx7.ext (hwf)
  replace cx9 := cx9.ext (hwf)
  replace cx11 := cx11.ext (hwf)
  replace cx13 := cx13.ext (hwf)
  replace o21m := o21m.ext (hwf)
  replace o22m := o22m.ext (hwf)
  replace o24m := o24m.ext (hwf)
  replace r0 := h0.ext e0
  replace r1 := h1.ext e0
  clear hwf
  rw [← hNd26] at hA1
  have la26 := hA1
  have lt29_0 := Own.lt o29_0
  have neA : ∀ b ∈ b29_0, b ≠ bA26 := fun b hb he => tg29 b hb _ ((congrArg (fun i => wf.heap[i]?) he).trans hA3)
  have neBo6_0 : ∀ b ∈ b6_0, b ≠ bA26 := fun b hb he => by have := lt6_0 b hb; omega
  have neBo21m : ∀ b ∈ b8, b ≠ bA26 := fun b hb he => by have := lt8 b hb; omega
  have neBo22m : ∀ b ∈ b10, b ≠ bA26 := fun b hb he => by have := lt10 b hb; omega
  have neBo24m : ∀ b ∈ b12_0, b ≠ bA26 := fun b hb he => by have := lt12_0 b hb; omega
  clear tg29
  have hxc29_0 := hid o29_0.rep.size
  have hyc29_0 := hid o29_0.rep.one
  refine as_stA (s := shModel) (cs := c29_0) rfl rfl rfl rfl hA3 rfl hxc29_0.out hyc29_0.out (by decide) ?_
  intro wc30 cx30 ch30
  clear hA3
  replace e0 := e0.chg ch30 (fun b hb => by omega)
  replace s := Nat.le_trans s (Chg.size ch30)
  replace o29_0 := o29_0.chg ch30 (fun b hb h => neA b hb h)
  replace o6_0 := o6_0.chg ch30 (fun b hb h => neBo6_0 b hb h)
  clear neBo6_0
  replace o21m := o21m.chg ch30 (fun b hb h => neBo21m b hb h)
  clear neBo21m
  replace o22m := o22m.chg ch30 (fun b hb h => neBo22m b hb h)
  clear neBo22m
  replace o24m := o24m.chg ch30 (fun b hb h => neBo24m b hb h)
  clear neBo24m
  clear neA
  replace c0 := Cs.chgB c0 ch30 (Cs.blkLt c0 (by rw [hl0.out]; decide)) (fun h => by omega)
  replace c1 := Cs.chgB c1 ch30 (Cs.blkLt c1 (by rw [hl1.out]; decide)) (fun h => by omega)
  replace cx7 := Cs.chgB cx7 ch30 (Cs.blkLt cx7 (by rw [hxc6_0.out]; decide)) (fun h => by omega)
  replace cx9 := Cs.chgB cx9 ch30 (Cs.blkLt cx9 (by rw [hxc8.out]; decide)) (fun h => by omega)
  replace cx11 := Cs.chgB cx11 ch30 (Cs.blkLt cx11 (by rw [hxc10.out]; decide)) (fun h => by omega)
  replace cx13 := Cs.chgB cx13 ch30 (Cs.blkLt cx13 (by rw [hxc12_0.out]; decide)) (fun h => by omega)
  replace r0 := h0.ext e0
  replace r1 := h1.ext e0
  have szA := Chg.size ch30
  obtain ⟨N30, hN30⟩ : ∃ N, N = wc30.heap.size := ⟨_, rfl⟩
  rw [← hN30] at szA s
  replace lt29_0 : ∀ b ∈ b29_0, b < N30 := fun b hb => Nat.lt_of_lt_of_le (lt29_0 b hb) szA
  have vl30 : bA26 < N30 := Nat.lt_of_lt_of_le hA2 szA
  have mm30 := s
  have s := Nat.le_of_eq hN30
  clear hA2 ch30 szA
  go_wp2_with (first | ((with_reducible show wpList _ _ _ (Oper.mk _ (Op.load _ _) _ _ _ _ :: _) _ _); refine wl_ldAw (s := shModel) (cs := cs0) (by first | rfl | (go_simp; done) | (go_simp; omega)) rfl rfl c0 hl0.out ?_) | ((with_reducible show wpList _ _ _ (Oper.mk _ (Op.load _ _) _ _ _ _ :: _) _ _); refine wl_ldAw (s := shModel) (cs := cs1) (by first | rfl | (go_simp; done) | (go_simp; omega)) rfl rfl c1 hl1.out ?_) | ((with_reducible show wpList _ _ _ (Oper.mk _ (Op.load _ _) _ _ _ _ :: _) _ _); refine wl_ldAw (s := shModel) (cs := c6_0) (by first | rfl | (go_simp; done) | (go_simp; omega)) rfl rfl cx7 hxc6_0.out ?_) | ((with_reducible show wpList _ _ _ (Oper.mk _ (Op.load _ _) _ _ _ _ :: _) _ _); refine wl_ldAw (s := shModel) (cs := c8) (by first | rfl | (go_simp; done) | (go_simp; omega)) rfl rfl cx9 hxc8.out ?_) | ((with_reducible show wpList _ _ _ (Oper.mk _ (Op.load _ _) _ _ _ _ :: _) _ _); refine wl_ldAw (s := shModel) (cs := c10) (by first | rfl | (go_simp; done) | (go_simp; omega)) rfl rfl cx11 hxc10.out ?_) | ((with_reducible show wpList _ _ _ (Oper.mk _ (Op.load _ _) _ _ _ _ :: _) _ _); refine wl_ldAw (s := shModel) (cs := c12_0) (by first | rfl | (go_simp; done) | (go_simp; omega)) rfl rfl cx13 hxc12_0.out ?_) | ((with_reducible show wpList _ _ _ (Oper.mk _ (Op.load _ _) _ _ _ _ :: _) _ _); refine wl_ldAw (s := shModel) (cs := c29_0) (by first | rfl | (go_simp; done) | (go_simp; omega)) rfl rfl cx30 hxc29_0.out ?_))
  refine (eqModel_ok c29_0 c6_0 R0 _ (o29_0.rep) (o6_0.rep) hbr0).mono ?_
  rintro e w31 ⟨rfl, e31⟩
  replace e0 := e0.trans (e31)
  replace s := Nat.le_trans s (Ext.size (e31))
  replace c0 := c0.ext (e31)
  replace c1 := c1.ext (e31)
  replace o6_0 := o6_0.ext (e31)
  replace cx7 := cx7.ext (e31)
  replace cx9 := cx9.ext (e31)
  replace cx11 := cx11.ext (e31)
  replace cx13 := cx13.ext (e31)
  replace o21m := o21m.ext (e31)
  replace o22m := o22m.ext (e31)
  replace o24m := o24m.ext (e31)
  replace o29_0 := o29_0.ext (e31)
  replace cx30 := cx30.ext (e31)
  replace r0 := h0.ext e0
  replace r1 := h1.ext e0
  clear e31
  go_wp2_with (first | ((with_reducible show wpList _ _ _ (Oper.mk _ (Op.load _ _) _ _ _ _ :: _) _ _); refine wl_ldAw (s := shModel) (cs := cs0) (by first | rfl | (go_simp; done) | (go_simp; omega)) rfl rfl c0 hl0.out ?_) | ((with_reducible show wpList _ _ _ (Oper.mk _ (Op.load _ _) _ _ _ _ :: _) _ _); refine wl_ldAw (s := shModel) (cs := cs1) (by first | rfl | (go_simp; done) | (go_simp; omega)) rfl rfl c1 hl1.out ?_) | ((with_reducible show wpList _ _ _ (Oper.mk _ (Op.load _ _) _ _ _ _ :: _) _ _); refine wl_ldAw (s := shModel) (cs := c6_0) (by first | rfl | (go_simp; done) | (go_simp; omega)) rfl rfl cx7 hxc6_0.out ?_) | ((with_reducible show wpList _ _ _ (Oper.mk _ (Op.load _ _) _ _ _ _ :: _) _ _); refine wl_ldAw (s := shModel) (cs := c8) (by first | rfl | (go_simp; done) | (go_simp; omega)) rfl rfl cx9 hxc8.out ?_) | ((with_reducible show wpList _ _ _ (Oper.mk _ (Op.load _ _) _ _ _ _ :: _) _ _); refine wl_ldAw (s := shModel) (cs := c10) (by first | rfl | (go_simp; done) | (go_simp; omega)) rfl rfl cx11 hxc10.out ?_) | ((with_reducible show wpList _ _ _ (Oper.mk _ (Op.load _ _) _ _ _ _ :: _) _ _); refine wl_ldAw (s := shModel) (cs := c12_0) (by first | rfl | (go_simp; done) | (go_simp; omega)) rfl rfl cx13 hxc12_0.out ?_) | ((with_reducible show wpList _ _ _ (Oper.mk _ (Op.load _ _) _ _ _ _ :: _) _ _); refine wl_ldAw (s := shModel) (cs := c29_0) (by first | rfl | (go_simp; done) | (go_simp; omega)) rfl rfl cx30 hxc29_0.out ?_))
  refine (heldModel_ok c12_0 R0 1 _ o24m.rep (by omega) (by omega)).mono ?_
  rintro e w32 ⟨rfl, e32⟩
  replace e0 := e0.trans (e32)
  replace s := Nat.le_trans s (Ext.size (e32))
  replace c0 := c0.ext (e32)
  replace c1 := c1.ext (e32)
  replace o6_0 := o6_0.ext (e32)
  replace cx7 := cx7.ext (e32)
  replace cx9 := cx9.ext (e32)
  replace cx11 := cx11.ext (e32)
  replace cx13 := cx13.ext (e32)
  replace o21m := o21m.ext (e32)
  replace o22m := o22m.ext (e32)
  replace o24m := o24m.ext (e32)
  replace o29_0 := o29_0.ext (e32)
  replace cx30 := cx30.ext (e32)
  replace r0 := h0.ext e0
  replace r1 := h1.ext e0
  clear e32
  rw [← HK24.out]
  go_wp2
  go_ret
  exact ⟨rfl, e0⟩
end Go.Proofs.Ytangnigplachdaa.lJoinModels
