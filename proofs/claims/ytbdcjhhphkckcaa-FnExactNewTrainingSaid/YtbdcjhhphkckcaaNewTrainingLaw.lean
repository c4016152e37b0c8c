/- The law FnExactNewTraining answers true at every input. -/
import Derived.Test.YtbdcjhhphkckcaaNewT2
import Derived.Test.YtbdcjhhphkckcaaKb
import Derived.Test.YtbdcjhhphkckcaaKf
import Derived.Test.YtbdcjhhphkckcaaFldW
namespace Go.Proofs.Ytbdcjhhphkckcaa.lNewTraining
set_option linter.unusedSimpArgs false
set_option linter.unusedVariables false
open Go.RowKit

set_option maxRecDepth 100000 in
set_option maxHeartbeats 1000000 in
theorem law_any (cs0 : List Value) (D0 : Sh.T shModel) (cs1 : List Value) (D1 : Sh.T shOptimizer) (a2 : Int) (w : World) (h0 : Rep w shModel cs0 D0) (h1 : Rep w shOptimizer cs1 D1) (f0 : Fit shModel D0) (f1 : Fit shOptimizer D1) (f2 : Fit .int a2) : Calls Try.prog 4 #[ofCs shModel cs0, ofCs shOptimizer cs1, .int .i64 a2] w fun e w' => e = .returned (.bool true) ∧ Ext w w' := by
  have hl0 := hid h0.size
  have ho0 := hid h0.one
  have hl1 := hid h1.size
  have ho1 := hid h1.one
  have e0 := Ext.refl w
  obtain ⟨N0, hN0⟩ : ∃ N0, N0 = w.heap.size := ⟨_, rfl⟩
  have s := Nat.le_of_eq hN0
  have r0 := h0
  have r1 := h1
  go_enter Try.func4, Try.ntmps4
  have hb1 : tot shOptimizer D1 ≤ 1048576 := by simp [tot]
  go_wp2_with (first | ((with_reducible show wpList _ _ _ (Oper.mk _ (Op.box _ _) _ _ _ _ :: _) _ _); refine wl_box (s := shModel) (cs := cs0) rfl rfl rfl hl0.out ho0.out ?_; intro b0 v0 g0 vv0 c0; have mb0 := Nat.le_trans s vv0; replace e0 := e0.trans (g0); replace s := Nat.le_trans s (Ext.size (g0)); replace r0 := h0.ext e0; replace r1 := h1.ext e0; have vl0 := Cs.blkLt c0 (by rw [hl0.out]; decide); obtain ⟨Nb0, hNb0⟩ : ∃ N, N = v0.heap.size := ⟨_, rfl⟩; rw [← hNb0] at vl0; have s := Nat.le_of_eq hNb0) | ((with_reducible show wpList _ _ _ (Oper.mk _ (Op.box _ _) _ _ _ _ :: _) _ _); refine wl_box (s := shOptimizer) (cs := cs1) rfl rfl rfl hl1.out ho1.out ?_; intro b1 v1 g1 vv1 c1; have mb1 := Nat.le_trans s vv1; replace e0 := e0.trans (g1); replace s := Nat.le_trans s (Ext.size (g1)); replace r0 := h0.ext e0; replace r1 := h1.ext e0; replace c0 := c0.ext g1; have vl1 := Cs.blkLt c1 (by rw [hl1.out]; decide); obtain ⟨Nb1, hNb1⟩ : ∃ N, N = v1.heap.size := ⟨_, rfl⟩; rw [← hNb1] at vl1; have s := Nat.le_of_eq hNb1) | ((with_reducible show wpList _ _ _ (Oper.mk _ (Op.load _ _) _ _ _ _ :: _) _ _); refine wl_ldAw (s := shModel) (cs := cs0) (by first | rfl | (go_simp; done) | (go_simp; omega)) rfl rfl c0 hl0.out ?_) | ((with_reducible show wpList _ _ _ (Oper.mk _ (Op.load _ _) _ _ _ _ :: _) _ _); refine wl_ldAw (s := shOptimizer) (cs := cs1) (by first | rfl | (go_simp; done) | (go_simp; omega)) rfl rfl c1 hl1.out ?_))
  refine (szModel_ok cs0 D0 1048576 _ r0 (by omega) (by omega)).mono ?_
  rintro e w1 ⟨⟨s1, rfl, hs1⟩, e1⟩
  replace e0 := e0.trans (e1)
  replace s := Nat.le_trans s (Ext.size (e1))
  replace c0 := c0.ext (e1)
  replace c1 := c1.ext (e1)
  replace r0 := h0.ext e0
  replace r1 := h1.ext e0
  clear e1
  by_cases hn1 : s1 < 0
  · go_wp2
    go_ret
    exact ⟨rfl, e0⟩
  have hb0 : tot shModel D0 ≤ 1048576 := by rcases hs1 with h | h; exact absurd h hn1; omega
  have hz1 : 0 ≤ s1 := by omega
  have ht1 : s1 ≤ 1048576 := by rcases hs1 with h | h; exact absurd h hn1; omega
  clear hs1
  go_wp2_with (first | ((with_reducible show wpList _ _ _ (Oper.mk _ (Op.load _ _) _ _ _ _ :: _) _ _); refine wl_ldAw (s := shModel) (cs := cs0) (by first | rfl | (go_simp; done) | (go_simp; omega)) rfl rfl c0 hl0.out ?_) | ((with_reducible show wpList _ _ _ (Oper.mk _ (Op.load _ _) _ _ _ _ :: _) _ _); refine wl_ldAw (s := shOptimizer) (cs := cs1) (by first | rfl | (go_simp; done) | (go_simp; omega)) rfl rfl c1 hl1.out ?_))
  replace e0 := e0.trans ((Ext.drew _))
  replace s := Nat.le_trans s (Ext.size ((Ext.drew _)))
  replace c0 := c0.ext ((Ext.drew _))
  replace c1 := c1.ext ((Ext.drew _))
  replace r0 := h0.ext e0
  replace r1 := h1.ext e0
  have hbr0 := res_bd D0 D1 a2 hb0 hb1 f0 f1 f2
  have KS := hid (fun y0 y1 W => spec_ok y0 D0 y1 D1 a2 W)
  have K := hid (fun y0 y1 W => impl_ok y0 D0 y1 D1 a2 W)
  generalize res D0 D1 a2 = r at *
  obtain ⟨R0, R1⟩ := r
  dsimp only at hbr0
  obtain ⟨Nd2, hNd2, sNd2⟩ := ext_size e0
  rw [← hNd2] at s
  have md2 := s
  have s := sNd2
  obtain ⟨F2, hF2⟩ : ∃ F : Option Tmp → World → Value → Prop, F = fun d W u => (match d with | some 25 => ∃ cs', u = ofCs shModel cs' ∧ Rep W shModel cs' D0 | some 27 => ∃ cs', u = ofCs shOptimizer cs' ∧ Rep W shOptimizer cs' D1 | some 29 => ∃ cs' bs', u = .tuple #[ofCs shTrainState cs', .bool R1] ∧ Own W shTrainState cs' R0 bs' ∧ bs'.Nodup ∧ (∀ b ∈ bs', Nd2 ≤ b) ∧ (∀ b ∈ bs', ∀ Z, W.heap[b]? ≠ some (.cells Z 48)) | _ => True) := ⟨_, rfl⟩
  have HF2 := hid hF2
  clear hF2
  refine wp_region_xs 10 (F := F2) (by kernel_rfl) (by kernel_rfl) (by kernel_rfl) (by kernel_rfl) (by kernel_rfl) ?_
  intro wf hwf
  simp only [List.take_succ_cons, List.take_zero]
  first | (refine x_ldA (s := shModel) (cs := cs0) rfl rfl rfl c0 hl0.out ?_) | (refine x_ldA (s := shOptimizer) (cs := cs1) rfl rfl rfl c1 hl1.out ?_)
  simp only [Act.put, ev_tmp, List.setIfInBounds_toArray, List.set_cons_succ, List.set_cons_zero, List.getD_cons_succ, List.getD_cons_zero]
  refine x_callf (f := 17) (args := #[ofCs shModel cs0]) rfl rfl Try.func17 rfl (by kernel_rfl) ?_ ?_ ?_; (focus (simp [Act.eval]; done)); (focus (intro w1 hw1; exact ((toModel_ok cs0 D0 w1 (r0.ext hw1) hb0).mono fun e w3 ⟨cs3, bs3, g1, g2, _, _, g3⟩ => ⟨_, g1, g3, by rw [HF2.out]; exact ⟨cs3, rfl, g2.rep⟩⟩))); rintro u w3 e3 e4 hu; simp only [HF2.out] at hu; obtain ⟨cz3, rfl, rz3⟩ := hu; clear rz3
  simp only [Act.put, ev_tmp, List.setIfInBounds_toArray, List.set_cons_succ, List.set_cons_zero, List.getD_cons_succ, List.getD_cons_zero]
  first | (refine x_ldA (s := shModel) (cs := cs0) rfl rfl rfl c0 hl0.out ?_) | (refine x_ldA (s := shOptimizer) (cs := cs1) rfl rfl rfl c1 hl1.out ?_)
  simp only [Act.put, ev_tmp, List.setIfInBounds_toArray, List.set_cons_succ, List.set_cons_zero, List.getD_cons_succ, List.getD_cons_zero]
  refine x_callf (f := 18) (args := #[ofCs shOptimizer cs1]) rfl rfl Try.func18 rfl (by kernel_rfl) ?_ ?_ ?_; (focus (simp [Act.eval]; done)); (focus (intro w1 hw1; exact ((toOptimizer_ok cs1 D1 w1 (r1.ext hw1) hb1).mono fun e w3 ⟨cs3, bs3, g1, g2, _, _, g3⟩ => ⟨_, g1, g3, by rw [HF2.out]; exact ⟨cs3, rfl, g2.rep⟩⟩))); rintro u w3 e3 e4 hu; simp only [HF2.out] at hu; obtain ⟨cz4, rfl, rz4⟩ := hu; clear rz4
  simp only [Act.put, ev_tmp, List.setIfInBounds_toArray, List.set_cons_succ, List.set_cons_zero, List.getD_cons_succ, List.getD_cons_zero]
  refine x_mv rfl rfl rfl ?_
  simp only [Act.put, ev_tmp, List.setIfInBounds_toArray, List.set_cons_succ, List.set_cons_zero, List.getD_cons_succ, List.getD_cons_zero]
  refine x_callK (f := 16) (args := #[ofCs shModel cz3, ofCs shOptimizer cz4, .int .i64 a2]) rfl rfl Try.func16 rfl (by kernel_rfl) ?_ ?_ ?_; (focus (simp [Act.eval]; done)); (focus (intro w1 hw1 hK; exact (by (obtain ⟨wa0, ga0, gb0, gc0⟩ := known_call hK (j := 1) (d := 25) (by kernel_rfl) rfl rfl rfl rfl Try.func17 rfl (by kernel_rfl) (by simp); rw [HF2.out] at gc0; obtain ⟨ca0, hca0, ra0⟩ := gc0; have hcb0 : ofCs shModel cz3 = ofCs shModel ca0 := hca0; rw [hcb0]; obtain ⟨wa1, ga1, gb1, gc1⟩ := known_call hK (j := 3) (d := 27) (by kernel_rfl) rfl rfl rfl rfl Try.func18 rfl (by kernel_rfl) (by simp); rw [HF2.out] at gc1; obtain ⟨ca1, hca1, ra1⟩ := gc1; have hcb1 : ofCs shOptimizer cz4 = ofCs shOptimizer ca1 := hca1; rw [hcb1]; rw [HF2.out]; exact (KS.out ca0 ca1 w1 (ra0.ext gb0) (ra1.ext gb1) f0 f1 f2).mono fun e w3 ⟨cs3, bs3, g1, g2, g3, g4, g5, g6⟩ => ⟨_, g1, g6, ⟨cs3, bs3, rfl, g2, g3, fun b hb => Nat.le_trans (by rw [hNd2]; exact hw1.size) (g4 b hb), g5⟩⟩)))); rintro u w3 e3 e4 hu; simp only [HF2.out] at hu; obtain ⟨c5_0, b5_0, rfl, o5_0, nd5_0, lo5_0, tg5⟩ := hu; have tg5 := Own.tag_ext o5_0 tg5 e4; replace o5_0 := o5_0.ext e4
  simp only [Act.put, ev_tmp, List.setIfInBounds_toArray, List.set_cons_succ, List.set_cons_zero, List.getD_cons_succ, List.getD_cons_zero]
  refine x_mv rfl rfl rfl ?_
  simp only [Act.put, ev_tmp, List.setIfInBounds_toArray, List.set_cons_succ, List.set_cons_zero, List.getD_cons_succ, List.getD_cons_zero]
  refine x_run rfl fun K hK w1 _ => ?_
  go_simp
  refine hK _ ?_
  clear hK K
  refine x_run rfl fun K hK w1 _ => ?_
  go_simp
  refine hK _ ?_
  clear hK K
  refine x_alloc (t := 48) (Z := #[.slice none 0 0, .slice none 0 0, .int .i64 0, .int .i64 0, .float .f32 0]) rfl (fun w1 => by go_simp) ?_
  intro bA2 hA1 hA2 hA3
  simp only [Act.put, ev_tmp, List.setIfInBounds_toArray, List.set_cons_succ, List.set_cons_zero, List.getD_cons_succ, List.getD_cons_zero]
  refine x_nil ?_
  replace e0 := e0.trans (hwf)
  replace s := Nat.le_trans s (Ext.size (hwf))
  replace c0 := c0.ext (hwf)
  replace c1 := c1.ext (hwf)
  replace r0 := h0.ext e0
  replace r1 := h1.ext e0
  clear hwf
  rw [← hNd2] at hA1
  have la2 := hA1
  have lt5_0 := Own.lt o5_0
  have neA5 : ∀ b ∈ b5_0, b ≠ bA2 := fun b hb he => tg5 b hb _ ((congrArg (fun i => wf.heap[i]?) he).trans hA3)
  clear tg5
  have hxc5_0 := hid o5_0.rep.size
  have hyc5_0 := hid o5_0.rep.one
  refine as_stA (s := shTrainState) (cs := c5_0) rfl rfl rfl rfl hA3 rfl hxc5_0.out hyc5_0.out (by decide) ?_
  intro wc6 cx6 ch6
  clear hA3
  replace e0 := e0.chg ch6 (fun b hb => by omega)
  replace s := Nat.le_trans s (Chg.size ch6)
  replace o5_0 := o5_0.chg ch6 (fun b hb h => neA5 b hb h)
  replace c0 := Cs.chgB c0 ch6 (Cs.blkLt c0 (by rw [hl0.out]; decide)) (fun h => by omega)
  replace c1 := Cs.chgB c1 ch6 (Cs.blkLt c1 (by rw [hl1.out]; decide)) (fun h => by omega)
  replace r0 := h0.ext e0
  replace r1 := h1.ext e0
  have szA := Chg.size ch6
  obtain ⟨N6, hN6⟩ : ∃ N, N = wc6.heap.size := ⟨_, rfl⟩
  rw [← hN6] at szA s
  replace lt5_0 : ∀ b ∈ b5_0, b < N6 := fun b hb => Nat.lt_of_lt_of_le (lt5_0 b hb) szA
  have vl6 : bA2 < N6 := Nat.lt_of_lt_of_le hA2 szA
  have mm6 := s
  have s := Nat.le_of_eq hN6
  clear hA2 ch6 szA
  go_wp2_with (first | ((with_reducible show wpList _ _ _ (Oper.mk _ (Op.load _ _) _ _ _ _ :: _) _ _); refine wl_ldAw (s := shModel) (cs := cs0) (by first | rfl | (go_simp; done) | (go_simp; omega)) rfl rfl c0 hl0.out ?_) | ((with_reducible show wpList _ _ _ (Oper.mk _ (Op.load _ _) _ _ _ _ :: _) _ _); refine wl_ldAw (s := shOptimizer) (cs := cs1) (by first | rfl | (go_simp; done) | (go_simp; omega)) rfl rfl c1 hl1.out ?_) | ((with_reducible show wpList _ _ _ (Oper.mk _ (Op.load _ _) _ _ _ _ :: _) _ _); refine wl_ldAw (s := shTrainState) (cs := c5_0) (by first | rfl | (go_simp; done) | (go_simp; omega)) rfl rfl cx6 hxc5_0.out ?_))
  refine (toModel_ok cs0 D0 _ r0 hb0).mono ?_
  rintro e w7 ⟨c7, b7, rfl, o7, nd7, lo7, e7⟩
  have m7 := s
  have sz7 := Ext.size e7
  have lt7 := Own.lt o7
  replace e0 := e0.trans (e7)
  replace s := Nat.le_trans s (Ext.size (e7))
  replace c0 := c0.ext (e7)
  replace c1 := c1.ext (e7)
  replace o5_0 := o5_0.ext (e7)
  replace cx6 := cx6.ext (e7)
  replace r0 := h0.ext e0
  replace r1 := h1.ext e0
  clear e7
  obtain ⟨N7, hN7⟩ : ∃ N, N = w7.heap.size := ⟨_, rfl⟩
  rw [← hN7] at sz7 lt7
  have s := Nat.le_of_eq hN7
  have hxc7 := hid o7.rep.size
  have hyc7 := hid o7.rep.one
  go_wp2_with (first | ((with_reducible show wpList _ _ _ (Oper.mk _ (Op.load _ _) _ _ _ _ :: _) _ _); refine wl_ldAw (s := shModel) (cs := cs0) (by first | rfl | (go_simp; done) | (go_simp; omega)) rfl rfl c0 hl0.out ?_) | ((with_reducible show wpList _ _ _ (Oper.mk _ (Op.load _ _) _ _ _ _ :: _) _ _); refine wl_ldAw (s := shOptimizer) (cs := cs1) (by first | rfl | (go_simp; done) | (go_simp; omega)) rfl rfl c1 hl1.out ?_) | ((with_reducible show wpList _ _ _ (Oper.mk _ (Op.load _ _) _ _ _ _ :: _) _ _); refine wl_ldAw (s := shTrainState) (cs := c5_0) (by first | rfl | (go_simp; done) | (go_simp; omega)) rfl rfl cx6 hxc5_0.out ?_) | ((with_reducible show wpList _ _ _ (Oper.mk _ (Op.store _ _ _) _ _ _ _ :: _) _ _); refine wl_stA (s := shModel) (cs := c7) rfl rfl rfl rfl (by first | exact heap_alloc_new _ _ | exact heap_alloc_old2 _ _ _) rfl hxc7.out hyc7.out (by decide) ?_; intro wc8 cx8 ch8; have E8 := (Ext.of_chg1 ch8); have mc8 := s; replace e0 := e0.trans (E8); replace s := Nat.le_trans s (Ext.size (E8)); replace c0 := c0.ext (E8); replace c1 := c1.ext (E8); replace o5_0 := o5_0.ext (E8); replace cx6 := cx6.ext (E8); replace o7 := o7.ext (E8); replace r0 := h0.ext e0; replace r1 := h1.ext e0; have vl8 := Cs.blkLt cx8 (by rw [hxc7.out]; decide); obtain ⟨Nc8, hNc8⟩ : ∃ N, N = wc8.heap.size := ⟨_, rfl⟩; rw [← hNc8] at vl8; have s := Nat.le_of_eq hNc8; clear E8 ch8) | ((with_reducible show wpList _ _ _ (Oper.mk _ (Op.load _ _) _ _ _ _ :: _) _ _); refine wl_ldAw (s := shModel) (cs := c7) (by first | rfl | (go_simp; done) | (go_simp; omega)) rfl rfl cx8 hxc7.out ?_))
  replace e0 := e0.trans ((Ext.drew _))
  replace s := Nat.le_trans s (Ext.size ((Ext.drew _)))
  replace c0 := c0.ext ((Ext.drew _))
  replace c1 := c1.ext ((Ext.drew _))
  replace o5_0 := o5_0.ext ((Ext.drew _))
  replace cx6 := cx6.ext ((Ext.drew _))
  replace o7 := o7.ext ((Ext.drew _))
  replace cx8 := cx8.ext ((Ext.drew _))
  replace r0 := h0.ext e0
  replace r1 := h1.ext e0
  obtain ⟨Nd9, hNd9, sNd9⟩ := ext_size e0
  rw [← hNd9] at s
  have md9 := s
  have s := sNd9
  obtain ⟨F9, hF9⟩ : ∃ F : Option Tmp → World → Value → Prop, F = fun d W u => (match d with | some 37 => ∃ cs', u = ofCs shOptimizer cs' ∧ Rep W shOptimizer cs' D1 | some 39 => ∃ cs' bs', u = .tuple #[ofCs shTrainState cs', .bool R1] ∧ Own W shTrainState cs' R0 bs' ∧ bs'.Nodup ∧ (∀ b ∈ bs', Nd9 ≤ b) ∧ (∀ b ∈ bs', ∀ Z, W.heap[b]? ≠ some (.cells Z 48)) | _ => True) := ⟨_, rfl⟩
  have HF9 := hid hF9
  clear hF9
  refine wp_region_xs 9 (F := F9) (by kernel_rfl) (by kernel_rfl) (by kernel_rfl) (by kernel_rfl) (by kernel_rfl) ?_
  intro wf hwf
  simp only [List.take_succ_cons, List.take_zero]
  first | (refine x_ldA (s := shModel) (cs := cs0) rfl rfl rfl c0 hl0.out ?_) | (refine x_ldA (s := shOptimizer) (cs := cs1) rfl rfl rfl c1 hl1.out ?_) | (refine x_ldA (s := shTrainState) (cs := c5_0) rfl rfl rfl cx6 hxc5_0.out ?_) | (refine x_ldA (s := shModel) (cs := c7) rfl rfl rfl cx8 hxc7.out ?_)
  simp only [Act.put, ev_tmp, List.setIfInBounds_toArray, List.set_cons_succ, List.set_cons_zero, List.getD_cons_succ, List.getD_cons_zero]
  first | (refine x_ldA (s := shModel) (cs := cs0) rfl rfl rfl c0 hl0.out ?_) | (refine x_ldA (s := shOptimizer) (cs := cs1) rfl rfl rfl c1 hl1.out ?_) | (refine x_ldA (s := shTrainState) (cs := c5_0) rfl rfl rfl cx6 hxc5_0.out ?_) | (refine x_ldA (s := shModel) (cs := c7) rfl rfl rfl cx8 hxc7.out ?_)
  simp only [Act.put, ev_tmp, List.setIfInBounds_toArray, List.set_cons_succ, List.set_cons_zero, List.getD_cons_succ, List.getD_cons_zero]
  refine x_callf (f := 18) (args := #[ofCs shOptimizer cs1]) rfl rfl Try.func18 rfl (by kernel_rfl) ?_ ?_ ?_; (focus (simp [Act.eval]; done)); (focus (intro w1 hw1; exact ((toOptimizer_ok cs1 D1 w1 (r1.ext hw1) hb1).mono fun e w3 ⟨cs3, bs3, g1, g2, _, _, g3⟩ => ⟨_, g1, g3, by rw [HF9.out]; exact ⟨cs3, rfl, g2.rep⟩⟩))); rintro u w3 e3 e4 hu; simp only [HF9.out] at hu; obtain ⟨cz10, rfl, rz10⟩ := hu; clear rz10
  simp only [Act.put, ev_tmp, List.setIfInBounds_toArray, List.set_cons_succ, List.set_cons_zero, List.getD_cons_succ, List.getD_cons_zero]
  refine x_mv rfl rfl rfl ?_
  simp only [Act.put, ev_tmp, List.setIfInBounds_toArray, List.set_cons_succ, List.set_cons_zero, List.getD_cons_succ, List.getD_cons_zero]
  refine x_callK (f := 19) (args := #[ofCs shModel c7, ofCs shOptimizer cz10, .int .i64 a2]) rfl rfl Try.func19 rfl (by kernel_rfl) ?_ ?_ ?_; (focus (simp [Act.eval]; done)); (focus (intro w1 hw1 hK; exact (by (obtain ⟨wa1, ga1, gb1, gc1⟩ := known_call hK (j := 2) (d := 37) (by kernel_rfl) rfl rfl rfl rfl Try.func18 rfl (by kernel_rfl) (by simp); rw [HF9.out] at gc1; obtain ⟨ca1, hca1, ra1⟩ := gc1; have hcb1 : ofCs shOptimizer cz10 = ofCs shOptimizer ca1 := hca1; rw [hcb1]; rw [HF9.out]; exact (K.out c7 ca1 w1 ((o7.rep).ext hw1) (ra1.ext gb1) f0 f1 f2).mono fun e w3 ⟨cs3, bs3, g1, g2, g3, g4, g5, g6⟩ => ⟨_, g1, g6, ⟨cs3, bs3, rfl, g2, g3, fun b hb => Nat.le_trans (by rw [hNd9]; exact hw1.size) (g4 b hb), g5⟩⟩)))); rintro u w3 e3 e4 hu; simp only [HF9.out] at hu; obtain ⟨c11_0, b11_0, rfl, o11_0, nd11_0, lo11_0, tg11⟩ := hu; have tg11 := Own.tag_ext o11_0 tg11 e4; replace o11_0 := o11_0.ext e4
  simp only [Act.put, ev_tmp, List.setIfInBounds_toArray, List.set_cons_succ, List.set_cons_zero, List.getD_cons_succ, List.getD_cons_zero]
  refine x_mv rfl rfl rfl ?_
  simp only [Act.put, ev_tmp, List.setIfInBounds_toArray, List.set_cons_succ, List.set_cons_zero, List.getD_cons_succ, List.getD_cons_zero]
  refine x_run rfl fun K hK w1 _ => ?_
  go_simp
  refine hK _ ?_
  clear hK K
  refine x_run rfl fun K hK w1 _ => ?_
  go_simp
  refine hK _ ?_
  clear hK K
  refine x_alloc (t := 48) (Z := #[.slice none 0 0, .slice none 0 0, .int .i64 0, .int .i64 0, .float .f32 0]) rfl (fun w1 => by go_simp) ?_
  intro bA9 hA1 hA2 hA3
  simp only [Act.put, ev_tmp, List.setIfInBounds_toArray, List.set_cons_succ, List.set_cons_zero, List.getD_cons_succ, List.getD_cons_zero]
  refine x_nil ?_
  replace e0 := e0.trans (hwf)
  replace s := Nat.le_trans s (Ext.size (hwf))
  replace c0 := c0.ext (hwf)
  replace c1 := c1.ext (hwf)
  replace o5_0 := o5_0.ext (hwf)
  replace cx6 := cx6.ext (hwf)
  replace o7 := o7.ext (hwf)
  replace cx8 := cx8.ext (hwf)
  replace r0 := h0.ext e0
  replace r1 := h1.ext e0
  clear hwf
  rw [← hNd9] at hA1
  have la9 := hA1
  have lt11_0 := Own.lt o11_0
  have neA11 : ∀ b ∈ b11_0, b ≠ bA9 := fun b hb he => tg11 b hb _ ((congrArg (fun i => wf.heap[i]?) he).trans hA3)
  have neBo5_0 : ∀ b ∈ b5_0, b ≠ bA9 := fun b hb he => by have := lt5_0 b hb; omega
  have neBo7 : ∀ b ∈ b7, b ≠ bA9 := fun b hb he => by have := lt7 b hb; omega
  clear tg11
  have hxc11_0 := hid o11_0.rep.size
  have hyc11_0 := hid o11_0.rep.one
  refine as_stA (s := shTrainState) (cs := c11_0) rfl rfl rfl rfl hA3 rfl hxc11_0.out hyc11_0.out (by decide) ?_
  intro wc12 cx12 ch12
  clear hA3
  replace e0 := e0.chg ch12 (fun b hb => by omega)
  replace s := Nat.le_trans s (Chg.size ch12)
  replace o11_0 := o11_0.chg ch12 (fun b hb h => neA11 b hb h)
  replace o5_0 := o5_0.chg ch12 (fun b hb h => neBo5_0 b hb h)
  clear neBo5_0
  replace o7 := o7.chg ch12 (fun b hb h => neBo7 b hb h)
  clear neBo7
  replace c0 := Cs.chgB c0 ch12 (Cs.blkLt c0 (by rw [hl0.out]; decide)) (fun h => by omega)
  replace c1 := Cs.chgB c1 ch12 (Cs.blkLt c1 (by rw [hl1.out]; decide)) (fun h => by omega)
  replace cx6 := Cs.chgB cx6 ch12 (Cs.blkLt cx6 (by rw [hxc5_0.out]; decide)) (fun h => by omega)
  replace cx8 := Cs.chgB cx8 ch12 (Cs.blkLt cx8 (by rw [hxc7.out]; decide)) (fun h => by omega)
  replace r0 := h0.ext e0
  replace r1 := h1.ext e0
  have szA := Chg.size ch12
  obtain ⟨N12, hN12⟩ : ∃ N, N = wc12.heap.size := ⟨_, rfl⟩
  rw [← hN12] at szA s
  replace lt11_0 : ∀ b ∈ b11_0, b < N12 := fun b hb => Nat.lt_of_lt_of_le (lt11_0 b hb) szA
  have vl12 : bA9 < N12 := Nat.lt_of_lt_of_le hA2 szA
  have mm12 := s
  have s := Nat.le_of_eq hN12
  clear hA2 ch12 szA
  go_wp2_with (first | ((with_reducible show wpList _ _ _ (Oper.mk _ (Op.load _ _) _ _ _ _ :: _) _ _); refine wl_ldAw (s := shModel) (cs := cs0) (by first | rfl | (go_simp; done) | (go_simp; omega)) rfl rfl c0 hl0.out ?_) | ((with_reducible show wpList _ _ _ (Oper.mk _ (Op.load _ _) _ _ _ _ :: _) _ _); refine wl_ldAw (s := shOptimizer) (cs := cs1) (by first | rfl | (go_simp; done) | (go_simp; omega)) rfl rfl c1 hl1.out ?_) | ((with_reducible show wpList _ _ _ (Oper.mk _ (Op.load _ _) _ _ _ _ :: _) _ _); refine wl_ldAw (s := shTrainState) (cs := c5_0) (by first | rfl | (go_simp; done) | (go_simp; omega)) rfl rfl cx6 hxc5_0.out ?_) | ((with_reducible show wpList _ _ _ (Oper.mk _ (Op.load _ _) _ _ _ _ :: _) _ _); refine wl_ldAw (s := shModel) (cs := c7) (by first | rfl | (go_simp; done) | (go_simp; omega)) rfl rfl cx8 hxc7.out ?_) | ((with_reducible show wpList _ _ _ (Oper.mk _ (Op.load _ _) _ _ _ _ :: _) _ _); refine wl_ldAw (s := shTrainState) (cs := c11_0) (by first | rfl | (go_simp; done) | (go_simp; omega)) rfl rfl cx12 hxc11_0.out ?_))
  refine (eqTrainState_ok c11_0 c5_0 R0 _ (o11_0.rep) (o5_0.rep) hbr0).mono ?_
  rintro e w13 ⟨rfl, e13⟩
  replace e0 := e0.trans (e13)
  replace s := Nat.le_trans s (Ext.size (e13))
  replace c0 := c0.ext (e13)
  replace c1 := c1.ext (e13)
  replace o5_0 := o5_0.ext (e13)
  replace cx6 := cx6.ext (e13)
  replace o7 := o7.ext (e13)
  replace cx8 := cx8.ext (e13)
  replace o11_0 := o11_0.ext (e13)
  replace cx12 := cx12.ext (e13)
  replace r0 := h0.ext e0
  replace r1 := h1.ext e0
  clear e13
  go_wp2_with (first | ((with_reducible show wpList _ _ _ (Oper.mk _ (Op.load _ _) _ _ _ _ :: _) _ _); refine wl_ldAw (s := shModel) (cs := cs0) (by first | rfl | (go_simp; done) | (go_simp; omega)) rfl rfl c0 hl0.out ?_) | ((with_reducible show wpList _ _ _ (Oper.mk _ (Op.load _ _) _ _ _ _ :: _) _ _); refine wl_ldAw (s := shOptimizer) (cs := cs1) (by first | rfl | (go_simp; done) | (go_simp; omega)) rfl rfl c1 hl1.out ?_) | ((with_reducible show wpList _ _ _ (Oper.mk _ (Op.load _ _) _ _ _ _ :: _) _ _); refine wl_ldAw (s := shTrainState) (cs := c5_0) (by first | rfl | (go_simp; done) | (go_simp; omega)) rfl rfl cx6 hxc5_0.out ?_) | ((with_reducible show wpList _ _ _ (Oper.mk _ (Op.load _ _) _ _ _ _ :: _) _ _); refine wl_ldAw (s := shModel) (cs := c7) (by first | rfl | (go_simp; done) | (go_simp; omega)) rfl rfl cx8 hxc7.out ?_) | ((with_reducible show wpList _ _ _ (Oper.mk _ (Op.load _ _) _ _ _ _ :: _) _ _); refine wl_ldAw (s := shTrainState) (cs := c11_0) (by first | rfl | (go_simp; done) | (go_simp; omega)) rfl rfl cx12 hxc11_0.out ?_))
  replace e0 := e0.trans ((Ext.drew _))
  replace s := Nat.le_trans s (Ext.size ((Ext.drew _)))
  replace c0 := c0.ext ((Ext.drew _))
  replace c1 := c1.ext ((Ext.drew _))
  replace o5_0 := o5_0.ext ((Ext.drew _))
  replace cx6 := cx6.ext ((Ext.drew _))
  replace o7 := o7.ext ((Ext.drew _))
  replace cx8 := cx8.ext ((Ext.drew _))
  replace o11_0 := o11_0.ext ((Ext.drew _))
  replace cx12 := cx12.ext ((Ext.drew _))
  replace r0 := h0.ext e0
  replace r1 := h1.ext e0
  obtain ⟨F14, hF14⟩ : ∃ F : Option Tmp → World → Value → Prop, F = fun d W u => (match d with | some 53 => ∃ cs', u = ofCs shModel cs' ∧ Rep W shModel cs' D0 | _ => True) := ⟨_, rfl⟩
  have HF14 := hid hF14
  clear hF14
  refine wp_region_xt 3 (F := F14) (by kernel_rfl) (by kernel_rfl) (by kernel_rfl) (by kernel_rfl) (by kernel_rfl) ?_
  intro wf hwf
  simp only [List.take_succ_cons, List.take_zero, List.drop_succ_cons, List.drop_zero]
  first | (refine x_ldA (s := shModel) (cs := cs0) rfl rfl rfl c0 hl0.out ?_) | (refine x_ldA (s := shOptimizer) (cs := cs1) rfl rfl rfl c1 hl1.out ?_) | (refine x_ldA (s := shTrainState) (cs := c5_0) rfl rfl rfl cx6 hxc5_0.out ?_) | (refine x_ldA (s := shModel) (cs := c7) rfl rfl rfl cx8 hxc7.out ?_) | (refine x_ldA (s := shTrainState) (cs := c11_0) rfl rfl rfl cx12 hxc11_0.out ?_)
  simp only [Act.put, ev_tmp, List.setIfInBounds_toArray, List.set_cons_succ, List.set_cons_zero, List.getD_cons_succ, List.getD_cons_zero]
  first | (refine x_ldA (s := shModel) (cs := cs0) rfl rfl rfl c0 hl0.out ?_) | (refine x_ldA (s := shOptimizer) (cs := cs1) rfl rfl rfl c1 hl1.out ?_) | (refine x_ldA (s := shTrainState) (cs := c5_0) rfl rfl rfl cx6 hxc5_0.out ?_) | (refine x_ldA (s := shModel) (cs := c7) rfl rfl rfl cx8 hxc7.out ?_) | (refine x_ldA (s := shTrainState) (cs := c11_0) rfl rfl rfl cx12 hxc11_0.out ?_)
  simp only [Act.put, ev_tmp, List.setIfInBounds_toArray, List.set_cons_succ, List.set_cons_zero, List.getD_cons_succ, List.getD_cons_zero]
  refine x_callf (f := 17) (args := #[ofCs shModel cs0]) rfl rfl Try.func17 rfl (by kernel_rfl) ?_ ?_ ?_; (focus (simp [Act.eval]; done)); (focus (intro w1 hw1; exact ((toModel_ok cs0 D0 w1 (r0.ext hw1) hb0).mono fun e w3 ⟨cs3, bs3, g1, g2, _, _, g3⟩ => ⟨_, g1, g3, by rw [HF14.out]; exact ⟨cs3, rfl, g2.rep⟩⟩))); rintro u w3 e3 e4 hu; simp only [HF14.out] at hu; obtain ⟨cz15, rfl, rz15⟩ := hu; replace rz15 := rz15.ext e4
  simp only [Act.put, ev_tmp, List.setIfInBounds_toArray, List.set_cons_succ, List.set_cons_zero, List.getD_cons_succ, List.getD_cons_zero]
  refine x_nil ?_
  replace e0 := e0.trans (hwf)
  replace s := Nat.le_trans s (Ext.size (hwf))
  replace c0 := c0.ext (hwf)
  replace c1 := c1.ext (hwf)
  replace o5_0 := o5_0.ext (hwf)
  replace cx6 := cx6.ext (hwf)
  replace o7 := o7.ext (hwf)
  replace cx8 := cx8.ext (hwf)
  replace o11_0 := o11_0.ext (hwf)
  replace cx12 := cx12.ext (hwf)
  replace r0 := h0.ext e0
  replace r1 := h1.ext e0
  clear hwf
  go_wp2_with fail
  refine (eqModel_ok c7 cz15 D0 _ (o7.rep) (rz15) hb0).mono ?_
  rintro e w16 ⟨rfl, e16⟩
  replace e0 := e0.trans (e16)
  replace s := Nat.le_trans s (Ext.size (e16))
  replace c0 := c0.ext (e16)
  replace c1 := c1.ext (e16)
  replace o5_0 := o5_0.ext (e16)
  replace cx6 := cx6.ext (e16)
  replace o7 := o7.ext (e16)
  replace cx8 := cx8.ext (e16)
  replace o11_0 := o11_0.ext (e16)
  replace cx12 := cx12.ext (e16)
  replace rz15 := rz15.ext (e16)
  replace r0 := h0.ext e0
  replace r1 := h1.ext e0
  clear e16
  go_wp2_with (first | ((with_reducible show wpList _ _ _ (Oper.mk _ (Op.load _ _) _ _ _ _ :: _) _ _); refine wl_ldAw (s := shModel) (cs := cs0) (by first | rfl | (go_simp; done) | (go_simp; omega)) rfl rfl c0 hl0.out ?_) | ((with_reducible show wpList _ _ _ (Oper.mk _ (Op.load _ _) _ _ _ _ :: _) _ _); refine wl_ldAw (s := shOptimizer) (cs := cs1) (by first | rfl | (go_simp; done) | (go_simp; omega)) rfl rfl c1 hl1.out ?_) | ((with_reducible show wpList _ _ _ (Oper.mk _ (Op.load _ _) _ _ _ _ :: _) _ _); refine wl_ldAw (s := shTrainState) (cs := c5_0) (by first | rfl | (go_simp; done) | (go_simp; omega)) rfl rfl cx6 hxc5_0.out ?_) | ((with_reducible show wpList _ _ _ (Oper.mk _ (Op.load _ _) _ _ _ _ :: _) _ _); refine wl_ldAw (s := shModel) (cs := c7) (by first | rfl | (go_simp; done) | (go_simp; omega)) rfl rfl cx8 hxc7.out ?_) | ((with_reducible show wpList _ _ _ (Oper.mk _ (Op.load _ _) _ _ _ _ :: _) _ _); refine wl_ldAw (s := shTrainState) (cs := c11_0) (by first | rfl | (go_simp; done) | (go_simp; omega)) rfl rfl cx12 hxc11_0.out ?_))
  have mb17 := mkV_bd shModel (by decide) D0 1
  refine (markModel_ok c7 D0 b7 1 _ o7 nd7 (by omega) (by omega)).mono ?_
  rintro e w17 ⟨rfl, o17m, ch17⟩
  replace e0 := e0.chg ch17 fun b hb => by have := lo7 b hb; omega
  replace s := Nat.le_trans s (Chg.size ch17)
  replace c0 := Cs.chgB c0 ch17 (Cs.blkLt c0 (by rw [hl0.out]; decide)) (fun h => by have := lo7 _ h; have := lt7 _ h; omega)
  replace c1 := Cs.chgB c1 ch17 (Cs.blkLt c1 (by rw [hl1.out]; decide)) (fun h => by have := lo7 _ h; have := lt7 _ h; omega)
  replace o5_0 := o5_0.chg ch17 (fun b hb h => by have := lo5_0 b hb; have := lt5_0 b hb; have := lo7 b h; have := lt7 b h; omega)
  replace cx6 := Cs.chgB cx6 ch17 (Cs.blkLt cx6 (by rw [hxc5_0.out]; decide)) (fun h => by have := lo7 _ h; have := lt7 _ h; omega)
  replace cx8 := Cs.chgB cx8 ch17 (Cs.blkLt cx8 (by rw [hxc7.out]; decide)) (fun h => by have := lo7 _ h; have := lt7 _ h; omega)
  replace o11_0 := o11_0.chg ch17 (fun b hb h => by have := lo11_0 b hb; have := lt11_0 b hb; have := lo7 b h; have := lt7 b h; omega)
  replace cx12 := Cs.chgB cx12 ch17 (Cs.blkLt cx12 (by rw [hxc11_0.out]; decide)) (fun h => by have := lo7 _ h; have := lt7 _ h; omega)
  clear rz15
  replace r0 := h0.ext e0
  replace r1 := h1.ext e0
  clear o7 ch17
  obtain ⟨k17, hk17⟩ : ∃ k, k = (mkV shModel D0 1).2 := ⟨_, rfl⟩
  rw [← hk17] at mb17 ⊢
  have HK17 := hid hk17
  clear hk17
  go_wp2_with (first | ((with_reducible show wpList _ _ _ (Oper.mk _ (Op.load _ _) _ _ _ _ :: _) _ _); refine wl_ldAw (s := shModel) (cs := cs0) (by first | rfl | (go_simp; done) | (go_simp; omega)) rfl rfl c0 hl0.out ?_) | ((with_reducible show wpList _ _ _ (Oper.mk _ (Op.load _ _) _ _ _ _ :: _) _ _); refine wl_ldAw (s := shOptimizer) (cs := cs1) (by first | rfl | (go_simp; done) | (go_simp; omega)) rfl rfl c1 hl1.out ?_) | ((with_reducible show wpList _ _ _ (Oper.mk _ (Op.load _ _) _ _ _ _ :: _) _ _); refine wl_ldAw (s := shTrainState) (cs := c5_0) (by first | rfl | (go_simp; done) | (go_simp; omega)) rfl rfl cx6 hxc5_0.out ?_) | ((with_reducible show wpList _ _ _ (Oper.mk _ (Op.load _ _) _ _ _ _ :: _) _ _); refine wl_ldAw (s := shModel) (cs := c7) (by first | rfl | (go_simp; done) | (go_simp; omega)) rfl rfl cx8 hxc7.out ?_) | ((with_reducible show wpList _ _ _ (Oper.mk _ (Op.load _ _) _ _ _ _ :: _) _ _); refine wl_ldAw (s := shTrainState) (cs := c11_0) (by first | rfl | (go_simp; done) | (go_simp; omega)) rfl rfl cx12 hxc11_0.out ?_))
  refine (eqTrainState_ok c11_0 c5_0 R0 _ (o11_0.rep) (o5_0.rep) hbr0).mono ?_
  rintro e w18 ⟨rfl, e18⟩
  replace e0 := e0.trans (e18)
  replace s := Nat.le_trans s (Ext.size (e18))
  replace c0 := c0.ext (e18)
  replace c1 := c1.ext (e18)
  replace o5_0 := o5_0.ext (e18)
  replace cx6 := cx6.ext (e18)
  replace cx8 := cx8.ext (e18)
  replace o11_0 := o11_0.ext (e18)
  replace cx12 := cx12.ext (e18)
  replace o17m := o17m.ext (e18)
  replace r0 := h0.ext e0
  replace r1 := h1.ext e0
  clear e18
  go_wp2_with (first | ((with_reducible show wpList _ _ _ (Oper.mk _ (Op.load _ _) _ _ _ _ :: _) _ _); refine wl_ldAw (s := shModel) (cs := cs0) (by first | rfl | (go_simp; done) | (go_simp; omega)) rfl rfl c0 hl0.out ?_) | ((with_reducible show wpList _ _ _ (Oper.mk _ (Op.load _ _) _ _ _ _ :: _) _ _); refine wl_ldAw (s := shOptimizer) (cs := cs1) (by first | rfl | (go_simp; done) | (go_simp; omega)) rfl rfl c1 hl1.out ?_) | ((with_reducible show wpList _ _ _ (Oper.mk _ (Op.load _ _) _ _ _ _ :: _) _ _); refine wl_ldAw (s := shTrainState) (cs := c5_0) (by first | rfl | (go_simp; done) | (go_simp; omega)) rfl rfl cx6 hxc5_0.out ?_) | ((with_reducible show wpList _ _ _ (Oper.mk _ (Op.load _ _) _ _ _ _ :: _) _ _); refine wl_ldAw (s := shModel) (cs := c7) (by first | rfl | (go_simp; done) | (go_simp; omega)) rfl rfl cx8 hxc7.out ?_) | ((with_reducible show wpList _ _ _ (Oper.mk _ (Op.load _ _) _ _ _ _ :: _) _ _); refine wl_ldAw (s := shTrainState) (cs := c11_0) (by first | rfl | (go_simp; done) | (go_simp; omega)) rfl rfl cx12 hxc11_0.out ?_))
  have mb19 := mkV_bd shTrainState (by decide) R0 1
  refine (markTrainState_ok c11_0 R0 b11_0 1 _ o11_0 nd11_0 (by omega) (by omega)).mono ?_
  rintro e w19 ⟨rfl, o19m, ch19⟩
  replace e0 := e0.chg ch19 fun b hb => by have := lo11_0 b hb; omega
  replace s := Nat.le_trans s (Chg.size ch19)
  replace c0 := Cs.chgB c0 ch19 (Cs.blkLt c0 (by rw [hl0.out]; decide)) (fun h => by have := lo11_0 _ h; have := lt11_0 _ h; omega)
  replace c1 := Cs.chgB c1 ch19 (Cs.blkLt c1 (by rw [hl1.out]; decide)) (fun h => by have := lo11_0 _ h; have := lt11_0 _ h; omega)
  replace o5_0 := o5_0.chg ch19 (fun b hb h => by have := lo5_0 b hb; have := lt5_0 b hb; have := lo11_0 b h; have := lt11_0 b h; omega)
  replace cx6 := Cs.chgB cx6 ch19 (Cs.blkLt cx6 (by rw [hxc5_0.out]; decide)) (fun h => by have := lo11_0 _ h; have := lt11_0 _ h; omega)
  replace cx8 := Cs.chgB cx8 ch19 (Cs.blkLt cx8 (by rw [hxc7.out]; decide)) (fun h => by have := lo11_0 _ h; have := lt11_0 _ h; omega)
  replace cx12 := Cs.chgB cx12 ch19 (Cs.blkLt cx12 (by rw [hxc11_0.out]; decide)) (fun h => neA11 _ h rfl)
  replace o17m := o17m.chg ch19 (fun b hb h => by have := lo7 b hb; have := lt7 b hb; have := lo11_0 b h; have := lt11_0 b h; omega)
  replace r0 := h0.ext e0
  replace r1 := h1.ext e0
  clear o11_0 ch19
  obtain ⟨k19, hk19⟩ : ∃ k, k = (mkV shTrainState R0 1).2 := ⟨_, rfl⟩
  rw [← hk19] at mb19 ⊢
  have HK19 := hid hk19
  clear hk19
  go_wp2_with (first | ((with_reducible show wpList _ _ _ (Oper.mk _ (Op.load _ _) _ _ _ _ :: _) _ _); refine wl_ldAw (s := shModel) (cs := cs0) (by first | rfl | (go_simp; done) | (go_simp; omega)) rfl rfl c0 hl0.out ?_) | ((with_reducible show wpList _ _ _ (Oper.mk _ (Op.load _ _) _ _ _ _ :: _) _ _); refine wl_ldAw (s := shOptimizer) (cs := cs1) (by first | rfl | (go_simp; done) | (go_simp; omega)) rfl rfl c1 hl1.out ?_) | ((with_reducible show wpList _ _ _ (Oper.mk _ (Op.load _ _) _ _ _ _ :: _) _ _); refine wl_ldAw (s := shTrainState) (cs := c5_0) (by first | rfl | (go_simp; done) | (go_simp; omega)) rfl rfl cx6 hxc5_0.out ?_) | ((with_reducible show wpList _ _ _ (Oper.mk _ (Op.load _ _) _ _ _ _ :: _) _ _); refine wl_ldAw (s := shModel) (cs := c7) (by first | rfl | (go_simp; done) | (go_simp; omega)) rfl rfl cx8 hxc7.out ?_) | ((with_reducible show wpList _ _ _ (Oper.mk _ (Op.load _ _) _ _ _ _ :: _) _ _); refine wl_ldAw (s := shTrainState) (cs := c11_0) (by first | rfl | (go_simp; done) | (go_simp; omega)) rfl rfl cx12 hxc11_0.out ?_))
  refine (heldTrainState_ok c11_0 R0 1 _ o19m.rep (by omega) (by omega)).mono ?_
  rintro e w20 ⟨rfl, e20⟩
  replace e0 := e0.trans (e20)
  replace s := Nat.le_trans s (Ext.size (e20))
  replace c0 := c0.ext (e20)
  replace c1 := c1.ext (e20)
  replace o5_0 := o5_0.ext (e20)
  replace cx6 := cx6.ext (e20)
  replace cx8 := cx8.ext (e20)
  replace cx12 := cx12.ext (e20)
  replace o17m := o17m.ext (e20)
  replace o19m := o19m.ext (e20)
  replace r0 := h0.ext e0
  replace r1 := h1.ext e0
  clear e20
  rw [← HK19.out]
  go_wp2_with (first | ((with_reducible show wpList _ _ _ (Oper.mk _ (Op.load _ _) _ _ _ _ :: _) _ _); refine wl_ldAw (s := shModel) (cs := cs0) (by first | rfl | (go_simp; done) | (go_simp; omega)) rfl rfl c0 hl0.out ?_) | ((with_reducible show wpList _ _ _ (Oper.mk _ (Op.load _ _) _ _ _ _ :: _) _ _); refine wl_ldAw (s := shOptimizer) (cs := cs1) (by first | rfl | (go_simp; done) | (go_simp; omega)) rfl rfl c1 hl1.out ?_) | ((with_reducible show wpList _ _ _ (Oper.mk _ (Op.load _ _) _ _ _ _ :: _) _ _); refine wl_ldAw (s := shTrainState) (cs := c5_0) (by first | rfl | (go_simp; done) | (go_simp; omega)) rfl rfl cx6 hxc5_0.out ?_) | ((with_reducible show wpList _ _ _ (Oper.mk _ (Op.load _ _) _ _ _ _ :: _) _ _); refine wl_ldAw (s := shModel) (cs := c7) (by first | rfl | (go_simp; done) | (go_simp; omega)) rfl rfl cx8 hxc7.out ?_) | ((with_reducible show wpList _ _ _ (Oper.mk _ (Op.load _ _) _ _ _ _ :: _) _ _); refine wl_ldAw (s := shTrainState) (cs := c11_0) (by first | rfl | (go_simp; done) | (go_simp; omega)) rfl rfl cx12 hxc11_0.out ?_))
  replace e0 := e0.trans ((Ext.drew _))
  replace s := Nat.le_trans s (Ext.size ((Ext.drew _)))
  replace c0 := c0.ext ((Ext.drew _))
  replace c1 := c1.ext ((Ext.drew _))
  replace o5_0 := o5_0.ext ((Ext.drew _))
  replace cx6 := cx6.ext ((Ext.drew _))
  replace cx8 := cx8.ext ((Ext.drew _))
  replace cx12 := cx12.ext ((Ext.drew _))
  replace o17m := o17m.ext ((Ext.drew _))
  replace o19m := o19m.ext ((Ext.drew _))
  replace r0 := h0.ext e0
  replace r1 := h1.ext e0
  obtain ⟨Nd21, hNd21, sNd21⟩ := ext_size e0
  rw [← hNd21] at s
  have md21 := s
  have s := sNd21
  obtain ⟨F21, hF21⟩ : ∃ F : Option Tmp → World → Value → Prop, F = fun d W u => (match d with | some 85 => ∃ cs', u = ofCs shModel cs' ∧ Rep W shModel cs' D0 | some 87 => ∃ cs', u = ofCs shOptimizer cs' ∧ Rep W shOptimizer cs' D1 | some 89 => ∃ cs' bs', u = .tuple #[ofCs shTrainState cs', .bool R1] ∧ Own W shTrainState cs' R0 bs' ∧ bs'.Nodup ∧ (∀ b ∈ bs', Nd21 ≤ b) ∧ (∀ b ∈ bs', ∀ Z, W.heap[b]? ≠ some (.cells Z 48)) | _ => True) := ⟨_, rfl⟩
  have HF21 := hid hF21
  clear hF21
  refine wp_region_xs 10 (F := F21) (by kernel_rfl) (by kernel_rfl) (by kernel_rfl) (by kernel_rfl) (by kernel_rfl) ?_
  intro wf hwf
  simp only [List.take_succ_cons, List.take_zero]
  first | (refine x_ldA (s := shModel) (cs := cs0) rfl rfl rfl c0 hl0.out ?_) | (refine x_ldA (s := shOptimizer) (cs := cs1) rfl rfl rfl c1 hl1.out ?_) | (refine x_ldA (s := shTrainState) (cs := c5_0) rfl rfl rfl cx6 hxc5_0.out ?_) | (refine x_ldA (s := shModel) (cs := c7) rfl rfl rfl cx8 hxc7.out ?_) | (refine x_ldA (s := shTrainState) (cs := c11_0) rfl rfl rfl cx12 hxc11_0.out ?_)
  simp only [Act.put, ev_tmp, List.setIfInBounds_toArray, List.set_cons_succ, List.set_cons_zero, List.getD_cons_succ, List.getD_cons_zero]
  refine x_callf (f := 17) (args := #[ofCs shModel cs0]) rfl rfl Try.func17 rfl (by kernel_rfl) ?_ ?_ ?_; (focus (simp [Act.eval]; done)); (focus (intro w1 hw1; exact ((toModel_ok cs0 D0 w1 (r0.ext hw1) hb0).mono fun e w3 ⟨cs3, bs3, g1, g2, _, _, g3⟩ => ⟨_, g1, g3, by rw [HF21.out]; exact ⟨cs3, rfl, g2.rep⟩⟩))); rintro u w3 e3 e4 hu; simp only [HF21.out] at hu; obtain ⟨cz22, rfl, rz22⟩ := hu; clear rz22
  simp only [Act.put, ev_tmp, List.setIfInBounds_toArray, List.set_cons_succ, List.set_cons_zero, List.getD_cons_succ, List.getD_cons_zero]
  first | (refine x_ldA (s := shModel) (cs := cs0) rfl rfl rfl c0 hl0.out ?_) | (refine x_ldA (s := shOptimizer) (cs := cs1) rfl rfl rfl c1 hl1.out ?_) | (refine x_ldA (s := shTrainState) (cs := c5_0) rfl rfl rfl cx6 hxc5_0.out ?_) | (refine x_ldA (s := shModel) (cs := c7) rfl rfl rfl cx8 hxc7.out ?_) | (refine x_ldA (s := shTrainState) (cs := c11_0) rfl rfl rfl cx12 hxc11_0.out ?_)
  simp only [Act.put, ev_tmp, List.setIfInBounds_toArray, List.set_cons_succ, List.set_cons_zero, List.getD_cons_succ, List.getD_cons_zero]
  refine x_callf (f := 18) (args := #[ofCs shOptimizer cs1]) rfl rfl Try.func18 rfl (by kernel_rfl) ?_ ?_ ?_; (focus (simp [Act.eval]; done)); (focus (intro w1 hw1; exact ((toOptimizer_ok cs1 D1 w1 (r1.ext hw1) hb1).mono fun e w3 ⟨cs3, bs3, g1, g2, _, _, g3⟩ => ⟨_, g1, g3, by rw [HF21.out]; exact ⟨cs3, rfl, g2.rep⟩⟩))); rintro u w3 e3 e4 hu; simp only [HF21.out] at hu; obtain ⟨cz23, rfl, rz23⟩ := hu; clear rz23
  simp only [Act.put, ev_tmp, List.setIfInBounds_toArray, List.set_cons_succ, List.set_cons_zero, List.getD_cons_succ, List.getD_cons_zero]
  refine x_mv rfl rfl rfl ?_
  simp only [Act.put, ev_tmp, List.setIfInBounds_toArray, List.set_cons_succ, List.set_cons_zero, List.getD_cons_succ, List.getD_cons_zero]
  refine x_callK (f := 19) (args := #[ofCs shModel cz22, ofCs shOptimizer cz23, .int .i64 a2]) rfl rfl Try.func19 rfl (by kernel_rfl) ?_ ?_ ?_; (focus (simp [Act.eval]; done)); (focus (intro w1 hw1 hK; exact (by (obtain ⟨wa0, ga0, gb0, gc0⟩ := known_call hK (j := 1) (d := 85) (by kernel_rfl) rfl rfl rfl rfl Try.func17 rfl (by kernel_rfl) (by simp); rw [HF21.out] at gc0; obtain ⟨ca0, hca0, ra0⟩ := gc0; have hcb0 : ofCs shModel cz22 = ofCs shModel ca0 := hca0; rw [hcb0]; obtain ⟨wa1, ga1, gb1, gc1⟩ := known_call hK (j := 3) (d := 87) (by kernel_rfl) rfl rfl rfl rfl Try.func18 rfl (by kernel_rfl) (by simp); rw [HF21.out] at gc1; obtain ⟨ca1, hca1, ra1⟩ := gc1; have hcb1 : ofCs shOptimizer cz23 = ofCs shOptimizer ca1 := hca1; rw [hcb1]; rw [HF21.out]; exact (K.out ca0 ca1 w1 (ra0.ext gb0) (ra1.ext gb1) f0 f1 f2).mono fun e w3 ⟨cs3, bs3, g1, g2, g3, g4, g5, g6⟩ => ⟨_, g1, g6, ⟨cs3, bs3, rfl, g2, g3, fun b hb => Nat.le_trans (by rw [hNd21]; exact hw1.size) (g4 b hb), g5⟩⟩)))); rintro u w3 e3 e4 hu; simp only [HF21.out] at hu; obtain ⟨c24_0, b24_0, rfl, o24_0, nd24_0, lo24_0, tg24⟩ := hu; have tg24 := Own.tag_ext o24_0 tg24 e4; replace o24_0 := o24_0.ext e4
  simp only [Act.put, ev_tmp, List.setIfInBounds_toArray, List.set_cons_succ, List.set_cons_zero, List.getD_cons_succ, List.getD_cons_zero]
  refine x_mv rfl rfl rfl ?_
  simp only [Act.put, ev_tmp, List.setIfInBounds_toArray, List.set_cons_succ, List.set_cons_zero, List.getD_cons_succ, List.getD_cons_zero]
  refine x_run rfl fun K hK w1 _ => ?_
  go_simp
  refine hK _ ?_
  clear hK K
  refine x_run rfl fun K hK w1 _ => ?_
  go_simp
  refine hK _ ?_
  clear hK K
  refine x_alloc (t := 48) (Z := #[.slice none 0 0, .slice none 0 0, .int .i64 0, .int .i64 0, .float .f32 0]) rfl (fun w1 => by go_simp) ?_
  intro bA21 hA1 hA2 hA3
  simp only [Act.put, ev_tmp, List.setIfInBounds_toArray, List.set_cons_succ, List.set_cons_zero, List.getD_cons_succ, List.getD_cons_zero]
  refine x_nil ?_
  replace e0 := e0.trans (hwf)
  replace s := Nat.le_trans s (Ext.size (hwf))
  replace c0 := c0.ext (hwf)
  replace c1 := c1.ext (hwf)
  replace o5_0 := o5_0.ext (hwf)
  replace cx6 := cx6.ext (hwf)
  replace cx8 := cx8.ext (hwf)
  replace cx12 := cx12.ext (hwf)
  replace o17m := o17m.ext (hwf)
  replace o19m := o19m.ext (hwf)
  replace r0 := h0.ext e0
  replace r1 := h1.ext e0
  clear hwf
  rw [← hNd21] at hA1
  have la21 := hA1
  have lt24_0 := Own.lt o24_0
  have neA24 : ∀ b ∈ b24_0, b ≠ bA21 := fun b hb he => tg24 b hb _ ((congrArg (fun i => wf.heap[i]?) he).trans hA3)
  have neBo5_0 : ∀ b ∈ b5_0, b ≠ bA21 := fun b hb he => by have := lt5_0 b hb; omega
  have neBo17m : ∀ b ∈ b7, b ≠ bA21 := fun b hb he => by have := lt7 b hb; omega
  have neBo19m : ∀ b ∈ b11_0, b ≠ bA21 := fun b hb he => by have := lt11_0 b hb; omega
  clear tg24
  have hxc24_0 := hid o24_0.rep.size
  have hyc24_0 := hid o24_0.rep.one
  refine as_stA (s := shTrainState) (cs := c24_0) rfl rfl rfl rfl hA3 rfl hxc24_0.out hyc24_0.out (by decide) ?_
  intro wc25 cx25 ch25
  clear hA3
  replace e0 := e0.chg ch25 (fun b hb => by omega)
  replace s := Nat.le_trans s (Chg.size ch25)
  replace o24_0 := o24_0.chg ch25 (fun b hb h => neA24 b hb h)
  replace o5_0 := o5_0.chg ch25 (fun b hb h => neBo5_0 b hb h)
  clear neBo5_0
  replace o17m := o17m.chg ch25 (fun b hb h => neBo17m b hb h)
  clear neBo17m
  replace o19m := o19m.chg ch25 (fun b hb h => neBo19m b hb h)
  clear neBo19m
  replace c0 := Cs.chgB c0 ch25 (Cs.blkLt c0 (by rw [hl0.out]; decide)) (fun h => by omega)
  replace c1 := Cs.chgB c1 ch25 (Cs.blkLt c1 (by rw [hl1.out]; decide)) (fun h => by omega)
  replace cx6 := Cs.chgB cx6 ch25 (Cs.blkLt cx6 (by rw [hxc5_0.out]; decide)) (fun h => by omega)
  replace cx8 := Cs.chgB cx8 ch25 (Cs.blkLt cx8 (by rw [hxc7.out]; decide)) (fun h => by omega)
  replace cx12 := Cs.chgB cx12 ch25 (Cs.blkLt cx12 (by rw [hxc11_0.out]; decide)) (fun h => by omega)
  replace r0 := h0.ext e0
  replace r1 := h1.ext e0
  have szA := Chg.size ch25
  obtain ⟨N25, hN25⟩ : ∃ N, N = wc25.heap.size := ⟨_, rfl⟩
  rw [← hN25] at szA s
  replace lt24_0 : ∀ b ∈ b24_0, b < N25 := fun b hb => Nat.lt_of_lt_of_le (lt24_0 b hb) szA
  have vl25 : bA21 < N25 := Nat.lt_of_lt_of_le hA2 szA
  have mm25 := s
  have s := Nat.le_of_eq hN25
  clear hA2 ch25 szA
  go_wp2_with (first | ((with_reducible show wpList _ _ _ (Oper.mk _ (Op.load _ _) _ _ _ _ :: _) _ _); refine wl_ldAw (s := shModel) (cs := cs0) (by first | rfl | (go_simp; done) | (go_simp; omega)) rfl rfl c0 hl0.out ?_) | ((with_reducible show wpList _ _ _ (Oper.mk _ (Op.load _ _) _ _ _ _ :: _) _ _); refine wl_ldAw (s := shOptimizer) (cs := cs1) (by first | rfl | (go_simp; done) | (go_simp; omega)) rfl rfl c1 hl1.out ?_) | ((with_reducible show wpList _ _ _ (Oper.mk _ (Op.load _ _) _ _ _ _ :: _) _ _); refine wl_ldAw (s := shTrainState) (cs := c5_0) (by first | rfl | (go_simp; done) | (go_simp; omega)) rfl rfl cx6 hxc5_0.out ?_) | ((with_reducible show wpList _ _ _ (Oper.mk _ (Op.load _ _) _ _ _ _ :: _) _ _); refine wl_ldAw (s := shModel) (cs := c7) (by first | rfl | (go_simp; done) | (go_simp; omega)) rfl rfl cx8 hxc7.out ?_) | ((with_reducible show wpList _ _ _ (Oper.mk _ (Op.load _ _) _ _ _ _ :: _) _ _); refine wl_ldAw (s := shTrainState) (cs := c11_0) (by first | rfl | (go_simp; done) | (go_simp; omega)) rfl rfl cx12 hxc11_0.out ?_) | ((with_reducible show wpList _ _ _ (Oper.mk _ (Op.load _ _) _ _ _ _ :: _) _ _); refine wl_ldAw (s := shTrainState) (cs := c24_0) (by first | rfl | (go_simp; done) | (go_simp; omega)) rfl rfl cx25 hxc24_0.out ?_))
  refine (eqTrainState_ok c24_0 c5_0 R0 _ (o24_0.rep) (o5_0.rep) hbr0).mono ?_
  rintro e w26 ⟨rfl, e26⟩
  replace e0 := e0.trans (e26)
  replace s := Nat.le_trans s (Ext.size (e26))
  replace c0 := c0.ext (e26)
  replace c1 := c1.ext (e26)
  replace o5_0 := o5_0.ext (e26)
  replace cx6 := cx6.ext (e26)
  replace cx8 := cx8.ext (e26)
  replace cx12 := cx12.ext (e26)
  replace o17m := o17m.ext (e26)
  replace o19m := o19m.ext (e26)
  replace o24_0 := o24_0.ext (e26)
  replace cx25 := cx25.ext (e26)
  replace r0 := h0.ext e0
  replace r1 := h1.ext e0
  clear e26
  go_wp2_with (first | ((with_reducible show wpList _ _ _ (Oper.mk _ (Op.load _ _) _ _ _ _ :: _) _ _); refine wl_ldAw (s := shModel) (cs := cs0) (by first | rfl | (go_simp; done) | (go_simp; omega)) rfl rfl c0 hl0.out ?_) | ((with_reducible show wpList _ _ _ (Oper.mk _ (Op.load _ _) _ _ _ _ :: _) _ _); refine wl_ldAw (s := shOptimizer) (cs := cs1) (by first | rfl | (go_simp; done) | (go_simp; omega)) rfl rfl c1 hl1.out ?_) | ((with_reducible show wpList _ _ _ (Oper.mk _ (Op.load _ _) _ _ _ _ :: _) _ _); refine wl_ldAw (s := shTrainState) (cs := c5_0) (by first | rfl | (go_simp; done) | (go_simp; omega)) rfl rfl cx6 hxc5_0.out ?_) | ((with_reducible show wpList _ _ _ (Oper.mk _ (Op.load _ _) _ _ _ _ :: _) _ _); refine wl_ldAw (s := shModel) (cs := c7) (by first | rfl | (go_simp; done) | (go_simp; omega)) rfl rfl cx8 hxc7.out ?_) | ((with_reducible show wpList _ _ _ (Oper.mk _ (Op.load _ _) _ _ _ _ :: _) _ _); refine wl_ldAw (s := shTrainState) (cs := c11_0) (by first | rfl | (go_simp; done) | (go_simp; omega)) rfl rfl cx12 hxc11_0.out ?_) | ((with_reducible show wpList _ _ _ (Oper.mk _ (Op.load _ _) _ _ _ _ :: _) _ _); refine wl_ldAw (s := shTrainState) (cs := c24_0) (by first | rfl | (go_simp; done) | (go_simp; omega)) rfl rfl cx25 hxc24_0.out ?_))
  refine (heldTrainState_ok c11_0 R0 1 _ o19m.rep (by omega) (by omega)).mono ?_
  rintro e w27 ⟨rfl, e27⟩
  replace e0 := e0.trans (e27)
  replace s := Nat.le_trans s (Ext.size (e27))
  replace c0 := c0.ext (e27)
  replace c1 := c1.ext (e27)
  replace o5_0 := o5_0.ext (e27)
  replace cx6 := cx6.ext (e27)
  replace cx8 := cx8.ext (e27)
  replace cx12 := cx12.ext (e27)
  replace o17m := o17m.ext (e27)
  replace o19m := o19m.ext (e27)
  replace o24_0 := o24_0.ext (e27)
  replace cx25 := cx25.ext (e27)
  replace r0 := h0.ext e0
  replace r1 := h1.ext e0
  clear e27
  rw [← HK19.out]
  go_wp2
  go_ret
  exact ⟨rfl, e0⟩
end Go.Proofs.Ytbdcjhhphkckcaa.lNewTraining
