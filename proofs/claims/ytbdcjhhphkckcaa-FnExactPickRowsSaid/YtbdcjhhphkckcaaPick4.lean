/- PickRows of the reference. -/
import Derived.Test.YtbdcjhhphkckcaaPick3
namespace Go.Proofs.Ytbdcjhhphkckcaa.lPickRows
set_option linter.unusedSimpArgs false
set_option linter.unusedVariables false
open Go.RowKit

theorem lblB_of {R : Int} {l : List Int} (h : ∀ i, i < l.length → inB (l.getD i 0) 0 (R - 1) = true) : lblB R l = true := by
  have h1 := lblB_any (O := R) (l := l)
  rw [anyTo_false (fun i hi => by rw [h i hi]; rfl)] at h1
  cases hb : lblB R l
  · rw [hb] at h1; cases h1
  · rfl
set_option maxRecDepth 100000 in
set_option maxHeartbeats 4000000 in
theorem spec_ok (cs0 : List Value) (D0 : shExamples.T) (cs1 : List Value) (D1 : List Int) (w : World) (h0 : Rep w shExamples cs0 D0) (h1 : Rep w (.sl .int) cs1 D1) (_ : Fit shExamples D0) (_ : Fit (.sl .int) D1) : Calls Try.prog 30 #[ofCs shExamples cs0, ofCs (.sl .int) cs1] w (OutT w 43 shExamples (res D0 D1)) := by
  obtain ⟨p1, q1, u1, p2, q2, u2, rfl, ⟨a1, a2, a3, a4⟩, ⟨b1, b2, b3, b4⟩⟩ := exa_vals h0
  obtain ⟨p3, c3, rfl, hl3, hnc3, hcm3⟩ := rep_ints.1 h1
  obtain ⟨⟨r1, k1, xs, v1⟩, ⟨r2, k2, ys, v2⟩, v3⟩ := D0
  dsimp only at a2 a3 b2 b3 ⊢
  simp only [ofCs, Sh.agg, if_true, if_false, Bool.false_eq_true, List.headD_cons]
  have hx1 : xs.length ≤ maxLen := Nat.le_trans a3 a4
  have hx2 : ys.length ≤ maxLen := Nat.le_trans b3 b4
  have hx3 : D1.length ≤ maxLen := Nat.le_trans hnc3 hcm3
  obtain ⟨W0, hW0⟩ : ∃ W0, W0 = (w.alloc (.cells #[.int .i64 r1, .int .i64 k1, .slice p1 xs.length q1, .int .i64 r2, .int .i64 k2, .slice p2 ys.length q2] 43)).alloc (.cells #[.int .i64 0, .int .i64 0, .slice none 0 0, .int .i64 0, .int .i64 0, .slice none 0 0] 43) := ⟨_, rfl⟩
  obtain ⟨E0, s0, c0, c1⟩ := box2 hW0
  have c0 : HB W0 w.heap.size #[.int .i64 r1, .int .i64 k1, .slice p1 xs.length q1, .int .i64 r2, .int .i64 k2, .slice p2 ys.length q2] 43 := c0
  have c1 : HB W0 (w.heap.size + 1) #[.int .i64 0, .int .i64 0, .slice none 0 0, .int .i64 0, .int .i64 0, .slice none 0 0] 43 := c1
  have A := hid (fun W (h : Ext W0 W) => l07Data_any w.heap.size 0 r1 k1 p1 xs.length q1 r2 k2 p2 ys.length q2 W ((c0.ext h).cell 0 rfl) ((c0.ext h).cell 1 rfl) ((c0.ext h).cell 2 rfl) ((c0.ext h).cell 3 rfl) ((c0.ext h).cell 4 rfl) ((c0.ext h).cell 5 rfl) hx1 hx2)
  clear h0 h1
  cases hb0 : exaB r1 k1 xs.length r2 k2 ys.length
  · rw [res_no (fun h => by have := h.1; unfold lExa.exa at this; dsimp only at this; rw [hb0] at this; cases this)]
    rw [hb0] at A
    clear a1 a2 a3 b1 b2 b3 hl3 hnc3 hb0 c0
    generalize xs.length = n1 at *
    generalize ys.length = n2 at *
    generalize D1.length = n3 at *
    go_enter Try.func30, Try.ntmps30
    go_wp2_with fail
    rw [← hW0]
    clear hW0
    refine (A.out _ (Ext.refl _)).mono ?_
    rintro e w1 ⟨rfl, e1⟩
    have f1 := c1.ext e1
    have n0 := f1.cell 0 rfl; have n1 := f1.cell 1 rfl; have n2 := f1.cell 2 rfl; have n3 := f1.cell 3 rfl; have n4 := f1.cell 4 rfl; have n5 := f1.cell 5 rfl
    have m0 := f1.froz 0; have m1 := f1.froz 1; have m2 := f1.froz 2; have m3 := f1.froz 3; have m4 := f1.froz 4; have m5 := f1.froz 5
    go_wp2
    refine bodyPost_ret (v := .tuple #[.agg #[.int .i64 0, .int .i64 0, .slice none 0 0, .int .i64 0, .int .i64 0, .slice none 0 0], .bool false]) (by simp [results, Try.results30, go_sem, n0, n1, n2, n3, n4, n5, m0, m1, m2, m3, m4, m5]) rfl ?_
    exact out_no rfl (by have := E0.trans e1; (repeat (first | with_reducible exact Ext.refl _ | with_reducible assumption | ((with_reducible refine Ext.setCell ?_ ?_ _); rotate_left; focus (first | (simp; done) | (simp; omega))) | (with_reducible refine Ext.trans ?_ (Ext.alloc _ _)) | (with_reducible refine Ext.trans ?_ (Ext.drew _)) | (with_reducible refine Ext.trans ?_ (by with_reducible assumption)))))
  rw [hb0] at A
  obtain ⟨t1, t2, rfl⟩ := exa_true hb0
  obtain ⟨R, C, e1, e2, hR, hR1, hC, hC1, hn⟩ := tenB_of t1
  obtain ⟨R2, C2, e3, e4, hR2, hR3, hC2, hC3, hn2⟩ := tenB_of t2
  have hRR : R2 = R := by omega
  subst hRR
  subst e1 e2 e4
  clear e3 hR2 hR3 t1 t2
  cases hb1 : inB (D1.length : Int) 1 16
  · rw [res_no (fun h => by have := h.2.1; rw [hb1] at this; cases this)]
    have hbb : D1.length < 1 ∨ 16 < D1.length := by
      refine Classical.byContradiction fun hn => ?_
      rw [show inB (D1.length : Int) 1 16 = true from inB_true.2 (by omega)] at hb1; cases hb1
    clear a1 a2 a3 b1 b2 b3 hl3 hnc3 hb0 hn hn2 hb1 c0
    generalize xs.length = n1 at *
    generalize ys.length = n2 at *
    generalize D1.length = n3 at *
    unfold maxLen at hx3
    rcases hbb with hbb | hbb
    · have hd1 : decide ((n3 : Int) < 1) = true := by simp; omega
      go_enter Try.func30, Try.ntmps30
      go_wp2_with fail
      rw [← hW0]
      clear hW0
      refine (A.out _ (Ext.refl _)).mono ?_
      rintro e w1 ⟨rfl, e1⟩
      have f1 := c1.ext e1
      have n0 := f1.cell 0 rfl; have n1 := f1.cell 1 rfl; have n2 := f1.cell 2 rfl; have n3 := f1.cell 3 rfl; have n4 := f1.cell 4 rfl; have n5 := f1.cell 5 rfl
      have m0 := f1.froz 0; have m1 := f1.froz 1; have m2 := f1.froz 2; have m3 := f1.froz 3; have m4 := f1.froz 4; have m5 := f1.froz 5
      go_wp2
      refine bodyPost_ret (v := .tuple #[.agg #[.int .i64 0, .int .i64 0, .slice none 0 0, .int .i64 0, .int .i64 0, .slice none 0 0], .bool false]) (by simp [results, Try.results30, go_sem, n0, n1, n2, n3, n4, n5, m0, m1, m2, m3, m4, m5]) rfl ?_
      exact out_no rfl (by have := E0.trans e1; (repeat (first | with_reducible exact Ext.refl _ | with_reducible assumption | ((with_reducible refine Ext.setCell ?_ ?_ _); rotate_left; focus (first | (simp; done) | (simp; omega))) | (with_reducible refine Ext.trans ?_ (Ext.alloc _ _)) | (with_reducible refine Ext.trans ?_ (Ext.drew _)) | (with_reducible refine Ext.trans ?_ (by with_reducible assumption)))))
    · have hd1 : decide ((n3 : Int) < 1) = false := by simp; omega
      have hd2 : decide ((16 : Int) < (n3 : Int)) = true := by simp; omega
      go_enter Try.func30, Try.ntmps30
      go_wp2_with fail
      rw [← hW0]
      clear hW0
      refine (A.out _ (Ext.refl _)).mono ?_
      rintro e w1 ⟨rfl, e1⟩
      have f1 := c1.ext e1
      have n0 := f1.cell 0 rfl; have n1 := f1.cell 1 rfl; have n2 := f1.cell 2 rfl; have n3 := f1.cell 3 rfl; have n4 := f1.cell 4 rfl; have n5 := f1.cell 5 rfl
      have m0 := f1.froz 0; have m1 := f1.froz 1; have m2 := f1.froz 2; have m3 := f1.froz 3; have m4 := f1.froz 4; have m5 := f1.froz 5
      go_wp2
      refine bodyPost_ret (v := .tuple #[.agg #[.int .i64 0, .int .i64 0, .slice none 0 0, .int .i64 0, .int .i64 0, .slice none 0 0], .bool false]) (by simp [results, Try.results30, go_sem, n0, n1, n2, n3, n4, n5, m0, m1, m2, m3, m4, m5]) rfl ?_
      exact out_no rfl (by have := E0.trans e1; (repeat (first | with_reducible exact Ext.refl _ | with_reducible assumption | ((with_reducible refine Ext.setCell ?_ ?_ _); rotate_left; focus (first | (simp; done) | (simp; omega))) | (with_reducible refine Ext.trans ?_ (Ext.alloc _ _)) | (with_reducible refine Ext.trans ?_ (Ext.drew _)) | (with_reducible refine Ext.trans ?_ (by with_reducible assumption)))))
  have hb1' := hb1
  rw [inB_true] at hb1'
  have HNo := hid (fun i (hi : i < D1.length) (h : inB (D1.getD i 0) 0 ((R2 : Int) - 1) = false) => show res ((R2, C, xs, v1), (R2, C2, ys, v2), v3) D1 = (noE, false) from res_no (fun hh => by
    have h1 := lblB_in hh.2.2 i hi
    rw [show inB (D1.getD i 0) 0 ((R2 : Int) - 1) = true from inB_true.2 h1] at h; cases h))
  have HYes := hid (fun (h : ∀ i, i < D1.length → inB (D1.getD i 0) 0 ((R2 : Int) - 1) = true) => show res ((R2, C, xs, v1), (R2, C2, ys, v2), v3) D1 = ((((D1.length : Int), (C : Int), pickF xs C D1 D1.length, ()), ((D1.length : Int), (C2 : Int), pickF ys C2 D1 D1.length, ()), ()), true) from by
    unfold res; rw [if_pos ⟨hb0, hb1, lblB_of h⟩]; rfl)
  have G1 := hid (fun W (h : Ext W0 W) (hh : ∀ i, i < D1.length → inB (D1.getD i 0) 0 ((R2 : Int) - 1) = true) => l07Rows_any (sp := none) w.heap.size 0 p1 p3 R2 C q1 D1.length c3 D1 u1 xs W hR1 hC1 hn (by rw [← hn]; exact a3) (a1.ext (E0.trans h)) a2 rfl (by omega) (lblB_in (lblB_of hh)) (hl3.ext (E0.trans h)) ((c0.ext h).cell 1 rfl) (by rw [← hn]; exact (c0.ext h).cell 2 rfl))
  have G2 := hid (fun W (h : Ext W0 W) (hh : ∀ i, i < D1.length → inB (D1.getD i 0) 0 ((R2 : Int) - 1) = true) => l07Rows_any (sp := none) w.heap.size 3 p2 p3 R2 C2 q2 D1.length c3 D1 u2 ys W hR1 hC3 hn2 (by rw [← hn2]; exact b3) (b1.ext (E0.trans h)) b2 rfl (by omega) (lblB_in (lblB_of hh)) (hl3.ext (E0.trans h)) ((c0.ext h).cell 4 rfl) (by rw [← hn2]; exact (c0.ext h).cell 5 rfl))
  have Hg := hid (fun i (hi : i < D1.length) => show (D1.map (Value.int .i64))[i]? = some (.int .i64 (D1.getD i 0)) from by simp [hi])
  have Hml := hid (show (D1.map (Value.int .i64)).length = D1.length from by rw [List.length_map])
  have HW := hid (show IntKind.i64.wrap ((R2 : Int) - 1) = (R2 : Int) - 1 from wrap_in _ (by omega) (by omega))
  generalize res ((R2, C, xs, v1), (R2, C2, ys, v2), v3) D1 = rs at *
  clear a1 a2 a3 b1 b2 b3 hnc3 hb0 hn hn2 hb1
  generalize pickF xs C D1 D1.length = P1 at *
  generalize pickF ys C2 D1 D1.length = P2 at *
  generalize xs.length = n1 at *
  generalize ys.length = n2 at *
  generalize hn3 : D1.length = n3 at *
  generalize D1.map (Value.int .i64) = rv at *
  clear hn3
  have hd1 : decide ((n3 : Int) < 1) = false := by simp; omega
  have hd2 : decide ((16 : Int) < (n3 : Int)) = false := by simp; omega
  go_enter Try.func30, Try.ntmps30
  go_wp2_with fail
  rw [← hW0]
  clear hW0
  refine (A.out _ (Ext.refl _)).mono ?_
  rintro e w1 ⟨rfl, e1⟩
  go_wp2
  go_loopw [6] (fun iv wr => ∃ i : Nat, i ≤ n3 ∧ iv = .int .i64 i ∧ Hid (∀ j, j < i → inB (D1.getD j 0) 0 ((R2 : Int) - 1) = true) ∧ Ext W0 wr) (fun iv _ => n3 - (intOf iv).toNat)
  case atStart => exact ⟨0, by omega, rfl, fun j hj => by omega, e1⟩
  case round =>
    obtain ⟨i, hi, rfl, HAll, he⟩ := hrel
    by_cases hlt : i < n3
    · have HNoi := hid (HNo.out i hlt)
      have HB1 := hid (Hg.out i hlt)
      have kp := (hl3.ext (E0.trans he)).ext (Ext.drew wr)
      have y0 := (c0.ext (he.trans (Ext.drew wr))).cell 0 rfl
      have K := hid (fun W => l00In_any (D1.getD i 0) 0 (IntKind.i64.wrap ((R2 : Int) - 1)) W)
      generalize hy : D1.getD i 0 = y at *
      have HY := hid hy
      clear hy
      obtain ⟨F, hF⟩ : ∃ F : Option Tmp → World → Value → Prop, F = fun _ _ u => u = .bool (inB y 0 (IntKind.i64.wrap ((R2 : Int) - 1))) := ⟨_, rfl⟩
      have HF := hid hF
      clear hF
      cases hin : inB y 0 ((R2 : Int) - 1)
      · have hno := HNoi.out hin
        subst hno
        have HI := hid hin
        clear hin
        go_wp2
        refine wp_region_xall (F := F) (by kernel_rfl) (by kernel_rfl) (by kernel_rfl) ?_
        intro wf hwf
        repeat (first
          | (refine x_skip rfl ?_; simp only [Act.put, ev_tmp, List.setIfInBounds_toArray, List.set_cons_succ, List.set_cons_zero, List.getD_cons_succ, List.getD_cons_zero])
          | (refine x_mv rfl rfl rfl ?_; simp only [Act.put, ev_tmp, List.setIfInBounds_toArray, List.set_cons_succ, List.set_cons_zero, List.getD_cons_succ, List.getD_cons_zero])
          | (refine x_as rfl rfl rfl ?_; simp only [Act.put, ev_tmp, List.setIfInBounds_toArray, List.set_cons_succ, List.set_cons_zero, List.getD_cons_succ, List.getD_cons_zero])
          | ((with_reducible show wpX _ _ _ _ _ _ (Oper.mk _ (Op.indexAddr _ _ _) _ _ _ _ :: Oper.mk _ (Op.load _ _) _ _ _ _ :: _) _); refine x_idxload rfl rfl (fun _ => rfl) rfl (fun _ => rfl) rfl rfl kp Hml.out (by omega) (by omega) ?_; intro u hu; rw [Int.toNat_natCast] at hu; replace hu := HB1.out.symm.trans hu; cases hu; simp only [Act.put, ev_tmp, List.setIfInBounds_toArray, List.set_cons_succ, List.set_cons_zero, List.getD_cons_succ, List.getD_cons_zero])
          | ((with_reducible show wpX _ _ _ _ _ _ (Oper.mk _ (Op.call _) _ _ _ _ :: _) _); refine x_callf (f := 85) (args := #[.int .i64 y, .int .i64 0, .int .i64 (IntKind.i64.wrap ((R2 : Int) - 1))]) rfl rfl Try.func85 rfl (by kernel_rfl) ?_ ?_ ?_; (focus (simp [Act.eval]; done)); (focus (intro w1 hw1; exact (by rw [HF.out]; exact (K.out w1).mono fun e w3 h => ⟨_, h.1, by rw [h.2]; exact Ext.refl _, rfl⟩))); rintro u w3 e3 e4 hu; simp only [HF.out] at hu; rw [HW.out, HI.out] at hu; subst hu; simp only [Act.put, ev_tmp, List.setIfInBounds_toArray, List.set_cons_succ, List.set_cons_zero, List.getD_cons_succ, List.getD_cons_zero])
          | (refine x_run rfl fun K hK w1 hw1 => ?_; have k0 := hw1.cell (y0); go_simp; refine hK _ ?_; clear hK K k0 hw1 w1))
        refine x_nil ?_
        have eW := (he.trans (Ext.drew wr)).trans hwf
        have f1 := c1.ext eW
        have n0 := f1.cell 0 rfl; have n1 := f1.cell 1 rfl; have n2 := f1.cell 2 rfl; have n3 := f1.cell 3 rfl; have n4 := f1.cell 4 rfl; have n5 := f1.cell 5 rfl
        have m0 := f1.froz 0; have m1 := f1.froz 1; have m2 := f1.froz 2; have m3 := f1.froz 3; have m4 := f1.froz 4; have m5 := f1.froz 5
        go_wp2
        refine bodyPost_ret (v := .tuple #[.agg #[.int .i64 0, .int .i64 0, .slice none 0 0, .int .i64 0, .int .i64 0, .slice none 0 0], .bool false]) (by simp [results, Try.results30, go_sem, n0, n1, n2, n3, n4, n5, m0, m1, m2, m3, m4, m5]) rfl ?_
        exact out_no rfl (by have := E0.trans eW; (repeat (first | with_reducible exact Ext.refl _ | with_reducible assumption | ((with_reducible refine Ext.setCell ?_ ?_ _); rotate_left; focus (first | (simp; done) | (simp; omega))) | (with_reducible refine Ext.trans ?_ (Ext.alloc _ _)) | (with_reducible refine Ext.trans ?_ (Ext.drew _)) | (with_reducible refine Ext.trans ?_ (by with_reducible assumption)))))
      · have HI := hid hin
        clear hin
        go_wp2
        refine wp_region_xall (F := F) (by kernel_rfl) (by kernel_rfl) (by kernel_rfl) ?_
        intro wf hwf
        repeat (first
          | (refine x_skip rfl ?_; simp only [Act.put, ev_tmp, List.setIfInBounds_toArray, List.set_cons_succ, List.set_cons_zero, List.getD_cons_succ, List.getD_cons_zero])
          | (refine x_mv rfl rfl rfl ?_; simp only [Act.put, ev_tmp, List.setIfInBounds_toArray, List.set_cons_succ, List.set_cons_zero, List.getD_cons_succ, List.getD_cons_zero])
          | (refine x_as rfl rfl rfl ?_; simp only [Act.put, ev_tmp, List.setIfInBounds_toArray, List.set_cons_succ, List.set_cons_zero, List.getD_cons_succ, List.getD_cons_zero])
          | ((with_reducible show wpX _ _ _ _ _ _ (Oper.mk _ (Op.indexAddr _ _ _) _ _ _ _ :: Oper.mk _ (Op.load _ _) _ _ _ _ :: _) _); refine x_idxload rfl rfl (fun _ => rfl) rfl (fun _ => rfl) rfl rfl kp Hml.out (by omega) (by omega) ?_; intro u hu; rw [Int.toNat_natCast] at hu; replace hu := HB1.out.symm.trans hu; cases hu; simp only [Act.put, ev_tmp, List.setIfInBounds_toArray, List.set_cons_succ, List.set_cons_zero, List.getD_cons_succ, List.getD_cons_zero])
          | ((with_reducible show wpX _ _ _ _ _ _ (Oper.mk _ (Op.call _) _ _ _ _ :: _) _); refine x_callf (f := 85) (args := #[.int .i64 y, .int .i64 0, .int .i64 (IntKind.i64.wrap ((R2 : Int) - 1))]) rfl rfl Try.func85 rfl (by kernel_rfl) ?_ ?_ ?_; (focus (simp [Act.eval]; done)); (focus (intro w1 hw1; exact (by rw [HF.out]; exact (K.out w1).mono fun e w3 h => ⟨_, h.1, by rw [h.2]; exact Ext.refl _, rfl⟩))); rintro u w3 e3 e4 hu; simp only [HF.out] at hu; rw [HW.out, HI.out] at hu; subst hu; simp only [Act.put, ev_tmp, List.setIfInBounds_toArray, List.set_cons_succ, List.set_cons_zero, List.getD_cons_succ, List.getD_cons_zero])
          | (refine x_run rfl fun K hK w1 hw1 => ?_; have k0 := hw1.cell (y0); go_simp; refine hK _ ?_; clear hK K k0 hw1 w1))
        refine x_nil ?_
        go_wp2
        go_roundw
        case rel =>
          refine ⟨i + 1, by omega, by go_num, fun j hj => ?_, (he.trans (Ext.drew wr)).trans hwf⟩
          by_cases hji : j = i
          · subst hji; rw [HY.out]; exact HI.out
          · exact HAll.out j (by omega)
        case measure => simp [intOf]; omega
    · obtain rfl : i = n3 := by omega
      have hyes := HYes.out HAll.out
      subst hyes
      have H1 := hid (fun W (h : Ext W0 W) => G1.out W h HAll.out)
      have H2 := hid (fun W (h : Ext W0 W) => G2.out W h HAll.out)
      clear G1 G2 A
      go_wp2_with fail
      refine (H1.out _ he).mono ?_
      rintro e w4 h4
      obtain ⟨qa, ka, rfl, e4, bs1, p1', p2', p3', p4'⟩ := ret_isY h4
      clear h4
      go_wp2_with fail
      refine (H2.out _ (he.trans e4)).mono ?_
      rintro e w5 h5
      obtain ⟨qb, kb, rfl, e5, bs2, s1', s2', s3', s4'⟩ := ret_isY h5
      clear h5
      have p7 := p1'.lt
      have r1 := p1'.ext e5
      have eW := (he.trans e4).trans e5
      have f9 := c1.ext eW
      have z0 := f9.cell 0 rfl; have z1 := f9.cell 1 rfl; have z2 := f9.cell 2 rfl; have z3 := f9.cell 3 rfl; have z4 := f9.cell 4 rfl; have z5 := f9.cell 5 rfl
      have x0 := f9.froz 0; have x1 := f9.froz 1; have x2 := f9.froz 2; have x3 := f9.froz 3; have x4 := f9.froz 4; have x5 := f9.froz 5
      have q1' := he.size
      have q2' := e4.size
      have lo1 : ∀ b ∈ bs1, W0.heap.size ≤ b := fun b hb => by have := p3' b hb; omega
      have lo2 : ∀ b ∈ bs2, W0.heap.size ≤ b := fun b hb => by have := s3' b hb; omega
      have ty1 := p4'.ext e5
      have hnd := nodup_app p2' s2' (B := w4.heap.size) (fun x hx => p7 x hx) (fun x hx => s3' x hx)
      have r2 := s1'
      have ty2 := s4'
      clear p1' s1' p2' s2' p3' s3' p4' s4' p7 H1 H2 HAll HNo HYes
      go_wp2
      refine bodyPost_ret (v := .tuple #[.agg #[.int .i64 i, .int .i64 C, .slice qa P1.length ka, .int .i64 i, .int .i64 C2, .slice qb P2.length kb], .bool true]) (by simp [results, Try.results30, go_sem, z0, z1, z2, z3, z4, z5, x0, x1, x2, x3, x4, x5]) rfl ?_
      generalize hWf : World.setCell _ _ _ = WF
      have ch : Chg (fun b => b = w.heap.size + 1) w5 WF := by subst hWf; (repeat (first | with_reducible exact Chg.refl _ _ | (with_reducible exact Chg.of_ext (by with_reducible assumption)) | with_reducible assumption | ((with_reducible refine Chg.setCell ?_ ?_ _); rotate_left; focus (first | (simp; done) | (simp; omega))) | (with_reducible refine Chg.alloc ?_ _) | (with_reducible refine Chg.drew ?_) | (with_reducible refine Chg.trans ?_ (Chg.of_ext (by with_reducible assumption)))))
      clear hWf
      exact ⟨[.int .i64 i, .int .i64 C, .slice qa P1.length ka, .int .i64 i, .int .i64 C2, .slice qb P2.length kb], bs1 ++ bs2, rfl, own_exa (own_ten rfl (r1.chg ch (fun b hb h => by have := lo1 b hb; omega))) (own_ten rfl (r2.chg ch (fun b hb h => by have := lo2 b hb; omega))), hnd, fun b hb => by
        rcases List.mem_append.1 hb with h | h
        · have := lo1 b h; omega
        · have := lo2 b h; omega, ((ty1.app ty2).chg ch (fun b hb h => by
          rcases List.mem_append.1 hb with h' | h'
          · have := lo1 b h'; omega
          · have := lo2 b h'; omega)).no (by decide), (E0.trans eW).chg ch (fun b hb => by omega)⟩
end Go.Proofs.Ytbdcjhhphkckcaa.lPickRows
