/- Which numbers of two trainings differ: the reference's part. -/
import Derived.Test.YtangnigplachdaaChgd2
namespace Go.Proofs.Ytangnigplachdaa
set_option linter.unusedSimpArgs false
set_option linter.unusedVariables false
open Go.RowKit

set_option maxRecDepth 100000 in
set_option maxHeartbeats 4000000 in
theorem l08Fit_any (bx bz : Nat) (p0 p1 q0 q1 : Option Addr) (n0 c0 n1 c1 m0 d0 m1 d1 : Nat) (css csq : List (List Value)) (us vs : List Value) (A B : shTrainState.T) (w : World) (L1 : Lays w p0 n0 css A.1.1) (S1 : Slts w p1 n1 us A.2.1) (L2 : Lays w q0 m0 csq B.1.1) (S2 : Slts w q1 m1 vs B.2.1)
    (x0 : w.cell? ⟨bx, 0, none⟩ = some (.slice p0 n0 c0)) (x1 : w.cell? ⟨bx, 1, none⟩ = some (.slice p1 n1 c1)) (x2 : w.cell? ⟨bx, 2, none⟩ = some (.int .i64 A.2.2.1)) (x3 : w.cell? ⟨bx, 3, none⟩ = some (.int .i64 A.2.2.2.1))
    (y0 : w.cell? ⟨bz, 0, none⟩ = some (.slice q0 m0 d0)) (y1 : w.cell? ⟨bz, 1, none⟩ = some (.slice q1 m1 d1)) (y2 : w.cell? ⟨bz, 2, none⟩ = some (.int .i64 B.2.2.1)) (y3 : w.cell? ⟨bz, 3, none⟩ = some (.int .i64 B.2.2.2.1)) :
    Calls Try.prog 132 #[.pointer (some ⟨bx, 0, none⟩), .pointer (some ⟨bz, 0, none⟩)] w (RetB w (fitB A B)) := by
  have K1 := hid (fun W (h : Ext w W) => l08Is_any bx p0 p1 n0 c0 n1 c1 A.2.2.1 A.2.2.2.1 css us A.1.1 A.2.1 W (L1.ext h) (S1.ext h) (h.cell x0) (h.cell x1) (h.cell x2) (h.cell x3))
  have K2 := hid (fun W (h : Ext w W) => l08Is_any bz q0 q1 m0 d0 m1 d1 B.2.2.1 B.2.2.2.1 csq vs B.1.1 B.2.1 W (L2.ext h) (S2.ext h) (h.cell y0) (h.cell y1) (h.cell y2) (h.cell y3))
  have l1 := L1.cs; have l2 := L1.all; have l3 := L1.size; have l5 := hid L1.cnt; have HL := hid L1.len
  have r1 := L2.cs; have r2 := L2.all; have r3 := L2.size; have r5 := hid L2.cnt; have HR := hid L2.len
  have hS1 := S1.len
  have hS2 := S2.len
  have hle := L1.le
  unfold maxLen at hle
  unfold fitB
  rw [HL.out, HR.out, hS1, hS2]
  clear L1 S1 L2 S2 hS1 hS2
  generalize A.1.1 = la at *
  generalize B.1.1 = lb at *
  generalize stoB la A.2.1 A.2.2.1 A.2.2.2.1 = bA at *
  generalize stoB lb B.2.1 B.2.2.1 B.2.2.2.1 = bB at *
  generalize A.2.2.1 = a3 at *
  generalize A.2.2.2.1 = a4 at *
  generalize B.2.2.1 = e3 at *
  generalize B.2.2.2.1 = e4 at *
  have eD := Ext.drew w
  have s0 := eD.cell x0; have s1 := eD.cell x1; have s2 := eD.cell y0; have s3 := eD.cell y1
  obtain ⟨F, hF⟩ : ∃ F : Option Tmp → World → Value → Prop, F = fun d _ u => match d with | some 9 => u = .bool bA | _ => u = .bool bB := ⟨_, rfl⟩
  have HF := hid hF
  clear hF
  cases bA
  · rw [Bool.false_and]
    go_enter Try.func132, Try.ntmps132
    go_wp2
    refine wp_region_xall (F := F) (by kernel_rfl) (by kernel_rfl) (by kernel_rfl) ?_
    intro wf hwf
    repeat (first
      | (refine x_skip rfl ?_; simp only [Act.put, ev_tmp, List.setIfInBounds_toArray, List.set_cons_succ, List.set_cons_zero, List.getD_cons_succ, List.getD_cons_zero])
      | (refine x_mv rfl rfl rfl ?_; simp only [Act.put, ev_tmp, List.setIfInBounds_toArray, List.set_cons_succ, List.set_cons_zero, List.getD_cons_succ, List.getD_cons_zero])
      | (refine x_as rfl rfl rfl ?_; simp only [Act.put, ev_tmp, List.setIfInBounds_toArray, List.set_cons_succ, List.set_cons_zero, List.getD_cons_succ, List.getD_cons_zero])
      | ((with_reducible show wpX _ _ _ _ _ _ (Oper.mk _ (Op.call _) _ _ _ _ :: _) _); refine x_callf (f := 165) (args := #[.pointer (some ⟨bx, 0, none⟩)]) rfl rfl Try.func165 rfl (by kernel_rfl) ?_ ?_ ?_; (focus (simp [Act.eval]; done)); (focus (intro w1 hw1; exact (by rw [HF.out]; exact (K1.out w1 (eD.trans hw1)).mono fun e w3 h => ⟨_, h.1, h.2, rfl⟩))); rintro u w3 e3 e4 hu; simp only [HF.out] at hu; subst hu; simp only [Act.put, ev_tmp, List.setIfInBounds_toArray, List.set_cons_succ, List.set_cons_zero, List.getD_cons_succ, List.getD_cons_zero])
      | (refine x_run rfl fun K hK w1 hw1 => ?_; have k0 := hw1.cell (s0); have k1 := hw1.cell (s1); have k2 := hw1.cell (s2); have k3 := hw1.cell (s3); go_simp; refine hK _ ?_; clear hK K k0 k1 k2 k3 hw1 w1))
    refine x_nil ?_
    go_wp2
    go_ret
    exact ⟨rfl, eD.trans hwf⟩
  rw [Bool.true_and]
  cases bB
  · rw [Bool.false_and]
    go_enter Try.func132, Try.ntmps132
    go_wp2
    refine wp_region_xall (F := F) (by kernel_rfl) (by kernel_rfl) (by kernel_rfl) ?_
    intro wf hwf
    repeat (first
      | (refine x_skip rfl ?_; simp only [Act.put, ev_tmp, List.setIfInBounds_toArray, List.set_cons_succ, List.set_cons_zero, List.getD_cons_succ, List.getD_cons_zero])
      | (refine x_mv rfl rfl rfl ?_; simp only [Act.put, ev_tmp, List.setIfInBounds_toArray, List.set_cons_succ, List.set_cons_zero, List.getD_cons_succ, List.getD_cons_zero])
      | (refine x_as rfl rfl rfl ?_; simp only [Act.put, ev_tmp, List.setIfInBounds_toArray, List.set_cons_succ, List.set_cons_zero, List.getD_cons_succ, List.getD_cons_zero])
      | ((with_reducible show wpX _ _ _ _ _ _ (Oper.mk _ (Op.call _) _ _ _ _ :: _) _); refine x_callf (f := 165) (args := #[.pointer (some ⟨bx, 0, none⟩)]) rfl rfl Try.func165 rfl (by kernel_rfl) ?_ ?_ ?_; (focus (simp [Act.eval]; done)); (focus (intro w1 hw1; exact (by rw [HF.out]; exact (K1.out w1 (eD.trans hw1)).mono fun e w3 h => ⟨_, h.1, h.2, rfl⟩))); rintro u w3 e3 e4 hu; simp only [HF.out] at hu; subst hu; simp only [Act.put, ev_tmp, List.setIfInBounds_toArray, List.set_cons_succ, List.set_cons_zero, List.getD_cons_succ, List.getD_cons_zero])
      | ((with_reducible show wpX _ _ _ _ _ _ (Oper.mk _ (Op.call _) _ _ _ _ :: _) _); refine x_callf (f := 165) (args := #[.pointer (some ⟨bz, 0, none⟩)]) rfl rfl Try.func165 rfl (by kernel_rfl) ?_ ?_ ?_; (focus (simp [Act.eval]; done)); (focus (intro w1 hw1; exact (by rw [HF.out]; exact (K2.out w1 (eD.trans hw1)).mono fun e w3 h => ⟨_, h.1, h.2, rfl⟩))); rintro u w3 e3 e4 hu; simp only [HF.out] at hu; subst hu; simp only [Act.put, ev_tmp, List.setIfInBounds_toArray, List.set_cons_succ, List.set_cons_zero, List.getD_cons_succ, List.getD_cons_zero])
      | (refine x_run rfl fun K hK w1 hw1 => ?_; have k0 := hw1.cell (s0); have k1 := hw1.cell (s1); have k2 := hw1.cell (s2); have k3 := hw1.cell (s3); go_simp; refine hK _ ?_; clear hK K k0 k1 k2 k3 hw1 w1))
    refine x_nil ?_
    go_wp2
    go_ret
    exact ⟨rfl, eD.trans hwf⟩
  rw [Bool.true_and]
  by_cases hn : n0 = m0
  case neg =>
    rw [decide_eq_false hn, Bool.false_and]
    have hT := bne_t (show ¬ (n0 : Int) = (m0 : Int) by omega)
    clear hn
    go_enter Try.func132, Try.ntmps132
    go_wp2
    refine wp_region_xall (F := F) (by kernel_rfl) (by kernel_rfl) (by kernel_rfl) ?_
    intro wf hwf
    repeat (first
      | (refine x_skip rfl ?_; simp only [Act.put, ev_tmp, List.setIfInBounds_toArray, List.set_cons_succ, List.set_cons_zero, List.getD_cons_succ, List.getD_cons_zero])
      | (refine x_mv rfl rfl rfl ?_; simp only [Act.put, ev_tmp, List.setIfInBounds_toArray, List.set_cons_succ, List.set_cons_zero, List.getD_cons_succ, List.getD_cons_zero])
      | (refine x_as rfl rfl rfl ?_; simp only [Act.put, ev_tmp, List.setIfInBounds_toArray, List.set_cons_succ, List.set_cons_zero, List.getD_cons_succ, List.getD_cons_zero])
      | ((with_reducible show wpX _ _ _ _ _ _ (Oper.mk _ (Op.call _) _ _ _ _ :: _) _); refine x_callf (f := 165) (args := #[.pointer (some ⟨bx, 0, none⟩)]) rfl rfl Try.func165 rfl (by kernel_rfl) ?_ ?_ ?_; (focus (simp [Act.eval]; done)); (focus (intro w1 hw1; exact (by rw [HF.out]; exact (K1.out w1 (eD.trans hw1)).mono fun e w3 h => ⟨_, h.1, h.2, rfl⟩))); rintro u w3 e3 e4 hu; simp only [HF.out] at hu; subst hu; simp only [Act.put, ev_tmp, List.setIfInBounds_toArray, List.set_cons_succ, List.set_cons_zero, List.getD_cons_succ, List.getD_cons_zero])
      | ((with_reducible show wpX _ _ _ _ _ _ (Oper.mk _ (Op.call _) _ _ _ _ :: _) _); refine x_callf (f := 165) (args := #[.pointer (some ⟨bz, 0, none⟩)]) rfl rfl Try.func165 rfl (by kernel_rfl) ?_ ?_ ?_; (focus (simp [Act.eval]; done)); (focus (intro w1 hw1; exact (by rw [HF.out]; exact (K2.out w1 (eD.trans hw1)).mono fun e w3 h => ⟨_, h.1, h.2, rfl⟩))); rintro u w3 e3 e4 hu; simp only [HF.out] at hu; subst hu; simp only [Act.put, ev_tmp, List.setIfInBounds_toArray, List.set_cons_succ, List.set_cons_zero, List.getD_cons_succ, List.getD_cons_zero])
      | (refine x_run rfl fun K hK w1 hw1 => ?_; have k0 := hw1.cell (s0); have k1 := hw1.cell (s1); have k2 := hw1.cell (s2); have k3 := hw1.cell (s3); go_simp; refine hK _ ?_; clear hK K k0 k1 k2 k3 hw1 w1))
    refine x_nil ?_
    go_wp2
    go_ret
    exact ⟨rfl, eD.trans hwf⟩
  rw [decide_eq_true hn, Bool.true_and]
  have Hn := hid hn
  have hT := bne_f (show (n0 : Int) = (m0 : Int) by omega)
  clear hn
  by_cases hm : n1 = m1
  case neg =>
    rw [decide_eq_false hm, Bool.false_and]
    have hT2 := bne_t (show ¬ (n1 : Int) = (m1 : Int) by omega)
    clear hm
    go_enter Try.func132, Try.ntmps132
    go_wp2
    refine wp_region_xall (F := F) (by kernel_rfl) (by kernel_rfl) (by kernel_rfl) ?_
    intro wf hwf
    repeat (first
      | (refine x_skip rfl ?_; simp only [Act.put, ev_tmp, List.setIfInBounds_toArray, List.set_cons_succ, List.set_cons_zero, List.getD_cons_succ, List.getD_cons_zero])
      | (refine x_mv rfl rfl rfl ?_; simp only [Act.put, ev_tmp, List.setIfInBounds_toArray, List.set_cons_succ, List.set_cons_zero, List.getD_cons_succ, List.getD_cons_zero])
      | (refine x_as rfl rfl rfl ?_; simp only [Act.put, ev_tmp, List.setIfInBounds_toArray, List.set_cons_succ, List.set_cons_zero, List.getD_cons_succ, List.getD_cons_zero])
      | ((with_reducible show wpX _ _ _ _ _ _ (Oper.mk _ (Op.call _) _ _ _ _ :: _) _); refine x_callf (f := 165) (args := #[.pointer (some ⟨bx, 0, none⟩)]) rfl rfl Try.func165 rfl (by kernel_rfl) ?_ ?_ ?_; (focus (simp [Act.eval]; done)); (focus (intro w1 hw1; exact (by rw [HF.out]; exact (K1.out w1 (eD.trans hw1)).mono fun e w3 h => ⟨_, h.1, h.2, rfl⟩))); rintro u w3 e3 e4 hu; simp only [HF.out] at hu; subst hu; simp only [Act.put, ev_tmp, List.setIfInBounds_toArray, List.set_cons_succ, List.set_cons_zero, List.getD_cons_succ, List.getD_cons_zero])
      | ((with_reducible show wpX _ _ _ _ _ _ (Oper.mk _ (Op.call _) _ _ _ _ :: _) _); refine x_callf (f := 165) (args := #[.pointer (some ⟨bz, 0, none⟩)]) rfl rfl Try.func165 rfl (by kernel_rfl) ?_ ?_ ?_; (focus (simp [Act.eval]; done)); (focus (intro w1 hw1; exact (by rw [HF.out]; exact (K2.out w1 (eD.trans hw1)).mono fun e w3 h => ⟨_, h.1, h.2, rfl⟩))); rintro u w3 e3 e4 hu; simp only [HF.out] at hu; subst hu; simp only [Act.put, ev_tmp, List.setIfInBounds_toArray, List.set_cons_succ, List.set_cons_zero, List.getD_cons_succ, List.getD_cons_zero])
      | (refine x_run rfl fun K hK w1 hw1 => ?_; have k0 := hw1.cell (s0); have k1 := hw1.cell (s1); have k2 := hw1.cell (s2); have k3 := hw1.cell (s3); go_simp; refine hK _ ?_; clear hK K k0 k1 k2 k3 hw1 w1))
    refine x_nil ?_
    go_wp2
    go_ret
    exact ⟨rfl, eD.trans hwf⟩
  rw [decide_eq_true hm, Bool.true_and]
  have hT2 := bne_f (show (n1 : Int) = (m1 : Int) by omega)
  clear hm
  generalize hG0 : kiB la lb 0 = G
  have HG := hid hG0
  clear hG0
  go_enter Try.func132, Try.ntmps132
  go_wp2
  refine wp_region_xall (F := F) (by kernel_rfl) (by kernel_rfl) (by kernel_rfl) ?_
  intro wf hwf
  repeat (first
    | (refine x_skip rfl ?_; simp only [Act.put, ev_tmp, List.setIfInBounds_toArray, List.set_cons_succ, List.set_cons_zero, List.getD_cons_succ, List.getD_cons_zero])
    | (refine x_mv rfl rfl rfl ?_; simp only [Act.put, ev_tmp, List.setIfInBounds_toArray, List.set_cons_succ, List.set_cons_zero, List.getD_cons_succ, List.getD_cons_zero])
    | (refine x_as rfl rfl rfl ?_; simp only [Act.put, ev_tmp, List.setIfInBounds_toArray, List.set_cons_succ, List.set_cons_zero, List.getD_cons_succ, List.getD_cons_zero])
    | ((with_reducible show wpX _ _ _ _ _ _ (Oper.mk _ (Op.call _) _ _ _ _ :: _) _); refine x_callf (f := 165) (args := #[.pointer (some ⟨bx, 0, none⟩)]) rfl rfl Try.func165 rfl (by kernel_rfl) ?_ ?_ ?_; (focus (simp [Act.eval]; done)); (focus (intro w1 hw1; exact (by rw [HF.out]; exact (K1.out w1 (eD.trans hw1)).mono fun e w3 h => ⟨_, h.1, h.2, rfl⟩))); rintro u w3 e3 e4 hu; simp only [HF.out] at hu; subst hu; simp only [Act.put, ev_tmp, List.setIfInBounds_toArray, List.set_cons_succ, List.set_cons_zero, List.getD_cons_succ, List.getD_cons_zero])
    | ((with_reducible show wpX _ _ _ _ _ _ (Oper.mk _ (Op.call _) _ _ _ _ :: _) _); refine x_callf (f := 165) (args := #[.pointer (some ⟨bz, 0, none⟩)]) rfl rfl Try.func165 rfl (by kernel_rfl) ?_ ?_ ?_; (focus (simp [Act.eval]; done)); (focus (intro w1 hw1; exact (by rw [HF.out]; exact (K2.out w1 (eD.trans hw1)).mono fun e w3 h => ⟨_, h.1, h.2, rfl⟩))); rintro u w3 e3 e4 hu; simp only [HF.out] at hu; subst hu; simp only [Act.put, ev_tmp, List.setIfInBounds_toArray, List.set_cons_succ, List.set_cons_zero, List.getD_cons_succ, List.getD_cons_zero])
    | (refine x_run rfl fun K hK w1 hw1 => ?_; have k0 := hw1.cell (s0); have k1 := hw1.cell (s1); have k2 := hw1.cell (s2); have k3 := hw1.cell (s3); go_simp; refine hK _ ?_; clear hK K k0 k1 k2 k3 hw1 w1))
  refine x_nil ?_
  have E2 := eD.trans hwf
  go_wp2
  go_loopw [5] (fun iv wr => ∃ (i : Nat), i ≤ n0 ∧ iv = .int .i64 i ∧ Hid (kiB la lb i = G) ∧ Ext w wr) (fun iv _ => n0 - (intOf iv).toNat)
  case atStart => exact ⟨0, by omega, rfl, HG, E2⟩
  case round =>
    clear HG s0 s1 s2 s3 E2 eD hwf
    obtain ⟨i, hi, rfl, HI, he⟩ := hrel
    have w0 := he.cell x0
    have E0 := Ext.refl w
    by_cases hlt : i < n0
    · have hil : i < la.length := by rw [HL.out]; exact hlt
      have hir : i < lb.length := by rw [HR.out, ← Hn.out]; exact hlt
      have hlt2 : i < m0 := by rw [← Hn.out]; exact hlt
      obtain ⟨ci, hci, ri⟩ := l2.get i la[i] (by simp)
      obtain ⟨ki, hki, si⟩ := r2.get i lb[i] (by simp)
      have hs1 : p0.isSome = true := l1.some_of l3 (by decide) (show 0 < css.length by rw [l5.out]; omega)
      have hs2 : q0.isSome = true := r1.some_of r3 (by decide) (show 0 < csq.length by rw [r5.out]; omega)
      have one := ri.one
      have two := si.one
      obtain ⟨pw, cw, pb, cb, rfl, _, _⟩ := lay_vals ri
      obtain ⟨qw, dw, qb, db, rfl, _, _⟩ := lay_vals si
      have hst := HI.out
      rw [kiB_at hil hir] at hst
      have hp := l1.ext (E0.trans he)
      have hq := r1.ext (E0.trans he)
      have u0 := he.cell y0
      unfold kio at hst
      generalize la[i] = x at *
      generalize lb[i] = y at *
      obtain ⟨k1, k2, k3, k4, k5, ku⟩ := x
      obtain ⟨j1, j2, j3, j4, j5, ju⟩ := y
      dsimp only at hst hci hki one two
      generalize List.length k4 = wl at *
      generalize List.length k5 = bl at *
      generalize List.length j4 = vl at *
      generalize List.length j5 = dl at *
      clear ri si
      by_cases g1 : (k1 : Int) = j1 <;> by_cases g2 : (k2 : Int) = j2 <;> by_cases g3 : (k3 : Int) = j3
      all_goals
        have G1 := hid hst
        first | have f1 := bne_f g1 | have f1 := bne_t g1
        first | have f2 := bne_f g2 | have f2 := bne_t g2
        first | have f3 := bne_f g3 | have f3 := bne_t g3
        have h1 := hid g1
        have h2 := hid g2
        have h3 := hid g3
        clear hst g1 g2 g3
        go_wp2_with (first | ((with_reducible show wpList _ _ _ (Oper.mk _ (Op.indexAddr _ _ _) _ _ _ _ :: Oper.mk _ (Op.load _ _) _ _ _ _ :: _) _ _); refine wl_idxloadE (s := shLayer) (j := i) (p := p0) rfl rfl rfl rfl (fun _ => rfl) rfl rfl rfl hp l3 l5.out hlt hs1 hci ?_; simp only [ofCs, Sh.agg, if_true]) | ((with_reducible show wpList _ _ _ (Oper.mk _ (Op.indexAddr _ _ _) _ _ _ _ :: Oper.mk _ (Op.load _ _) _ _ _ _ :: _) _ _); refine wl_idxloadE (s := shLayer) (j := i) (p := q0) rfl rfl rfl rfl (fun _ => rfl) rfl rfl rfl (hq.ext E5) r3 r5.out hlt2 hs2 hki ?_; simp only [ofCs, Sh.agg, if_true]) | ((with_reducible show wpList _ _ _ (Oper.mk _ (Op.store _ _ _) _ _ _ _ :: _) _ _); refine wl_stA (s := shLayer) (cs := [.int .i64 k1, .int .i64 k2, .int .i64 k3, .slice pw wl cw, .slice pb bl cb]) rfl rfl rfl rfl (heap_alloc_new _ _) rfl rfl one (by decide) ?_; intro w5 c5 ch5; have E5 := Ext.of_chg1 ch5; have v0 := E5.cell u0; clear ch5) | ((with_reducible show wpList _ _ _ (Oper.mk _ (Op.store _ _ _) _ _ _ _ :: _) _ _); refine wl_stA (s := shLayer) (cs := [.int .i64 j1, .int .i64 j2, .int .i64 j3, .slice qw vl dw, .slice qb dl db]) rfl rfl rfl rfl (heap_alloc_new _ _) rfl rfl two (by decide) ?_; intro w6 c6 ch6; have E6 := Ext.of_chg1 ch6; have o0 := lCountCorrect.cs_cell (c5.ext E6) 0 rfl; have o1 := lCountCorrect.cs_cell (c5.ext E6) 1 rfl; have o2 := lCountCorrect.cs_cell (c5.ext E6) 2 rfl; have a0 := lCountCorrect.cs_cell c6 0 rfl; have a1 := lCountCorrect.cs_cell c6 1 rfl; have a2 := lCountCorrect.cs_cell c6 2 rfl; have E7 := he.trans (E5.trans E6); clear ch6))
      · go_roundw
        case rel => exact ⟨i + 1, by omega, by go_num, by rw [← G1.out, decide_eq_true h1.out, decide_eq_true h2.out, decide_eq_true h3.out]; rfl, E7⟩
        case measure => simp [intOf]; omega
      all_goals
        go_ret
        refine ⟨?_, E0.trans E7⟩
        have hG := G1.out
        first
          | rw [decide_eq_false h1.out] at hG
          | rw [decide_eq_false h2.out] at hG
          | rw [decide_eq_false h3.out] at hG
        simp only [Bool.false_and, Bool.and_false] at hG
        rw [← hG]
        rfl
    · obtain rfl : i = n0 := by omega
      have hst := HI.out
      rw [kiB_end (by rw [HL.out]; exact Nat.le_refl _)] at hst
      subst hst
      go_wp2
      go_ret
      exact ⟨rfl, E0.trans he⟩
set_option maxRecDepth 100000 in
set_option maxHeartbeats 4000000 in
theorem l08Changed_any (q2 q3 : Option Addr) (n k2 k3 : Nat) (vs2 vs3 : List Value) (xs ys : List Nat) (w : World) (hX : xs.length = n) (hY : ys.length = n) (hn : n ≤ 1073741824) (g3 : Cs w q3 vs3) (hf3 : F32s vs3 xs) (g2 : Cs w q2 vs2) (hf2 : F32s vs2 ys) (hA : ∀ i, xs.getD i 0 < 4294967296) (hB : ∀ i, ys.getD i 0 < 4294967296) :
    Calls Try.prog 133 #[.slice q3 n k3, .slice q2 n k2] w (RetI w (chgTo xs ys n)) := by
  have HX := hid hX
  have HY := hid hY
  have FA := hid hA
  have FB := hid hB
  have hst : (w.alloc (.cells #[] 2)).ownsRow w.heap.size 2 1 (.slice (some ⟨w.heap.size, 0, none⟩) 0 0) 0 [] := World.ownsRow_made w #[] 0 (Nat.le_refl _) (by decide) rfl
  have e2 := Ext.alloc w (.cells #[] 2)
  clear hX hY hA hB
  go_enter Try.func133, Try.ntmps133
  go_wp2_with fail
  generalize hW2 : w.alloc (.cells #[] 2) = W2 at *
  have hs2 : w.heap.size ≤ W2.heap.size := e2.size
  go_loopw [5, 6] (fun ov iv wr => ∃ (i : Nat) (q6 : Option Addr) (c6 : Nat), i ≤ n ∧ iv = .int .i64 i ∧ ov = .slice q6 (chgTo xs ys i).length c6 ∧ wr.ownsRow w.heap.size 2 1 (.slice q6 (chgTo xs ys i).length c6) (chgTo xs ys i).length ((chgTo xs ys i).map (.int .i64)) ∧ Ext w wr) (fun _ iv _ => n - (intOf iv).toNat)
  case atStart => exact ⟨0, _, _, by omega, rfl, rfl, hst, e2⟩
  case round =>
    clear hst e2 hW2 hs2
    obtain ⟨i, q6, c6, hi, rfl, rfl, own6, he⟩ := hrel
    have hcl := chgTo_le xs ys i
    have hsz := he.size
    by_cases hlt : i < n
    · have ha := FA.out i
      have hb := FB.out i
      have hD := Ext.drew wr
      have z3 := g3.ext (he.trans hD)
      have z2 := g2.ext (he.trans hD)
      by_cases hq : xs.getD i 0 = ys.getD i 0
      · have HC := hid (chgTo_eq hq)
        have Hq := hid hq
        clear hq
        generalize hx : xs.getD i 0 = xv at *
        generalize hy : ys.getD i 0 = yv at *
        have Hx := hid hx
        have Hy := hid hy
        clear hx hy
        generalize chgTo xs ys i = L at *
        obtain ⟨F, hF⟩ : ∃ F : Option Tmp → World → Value → Prop, F = fun d _ u => u = .bool true := ⟨_, rfl⟩
        have HF := hid hF
        clear hF
        go_wp2
        refine wp_region_xall (F := F) (by kernel_rfl) (by kernel_rfl) (by kernel_rfl) ?_
        intro wf hwf
        repeat (first
          | (refine x_skip rfl ?_; simp only [Act.put, ev_tmp, List.setIfInBounds_toArray, List.set_cons_succ, List.set_cons_zero, List.getD_cons_succ, List.getD_cons_zero])
          | (refine x_mv rfl rfl rfl ?_; simp only [Act.put, ev_tmp, List.setIfInBounds_toArray, List.set_cons_succ, List.set_cons_zero, List.getD_cons_succ, List.getD_cons_zero])
          | (refine x_as rfl rfl rfl ?_; simp only [Act.put, ev_tmp, List.setIfInBounds_toArray, List.set_cons_succ, List.set_cons_zero, List.getD_cons_succ, List.getD_cons_zero])
          | ((with_reducible show wpX _ _ _ _ _ _ (Oper.mk _ (Op.indexAddr _ _ _) _ _ _ _ :: Oper.mk _ (Op.load _ _) _ _ _ _ :: _) _); refine x_ldF rfl rfl (fun _ => rfl) rfl (fun _ => rfl) rfl rfl z3 hf3 HX.out (by omega) (by omega) ?_; intro r1 k1; rw [Int.toNat_natCast, Hx.out] at k1; have Z1 := hid k1; clear k1; simp only [Act.put, ev_tmp, List.setIfInBounds_toArray, List.set_cons_succ, List.set_cons_zero, List.getD_cons_succ, List.getD_cons_zero])
          | ((with_reducible show wpX _ _ _ _ _ _ (Oper.mk _ (Op.indexAddr _ _ _) _ _ _ _ :: Oper.mk _ (Op.load _ _) _ _ _ _ :: _) _); refine x_ldF rfl rfl (fun _ => rfl) rfl (fun _ => rfl) rfl rfl z2 hf2 HY.out (by omega) (by omega) ?_; intro r2 k2; rw [Int.toNat_natCast, Hy.out] at k2; have Z2 := hid k2; clear k2; simp only [Act.put, ev_tmp, List.setIfInBounds_toArray, List.set_cons_succ, List.set_cons_zero, List.getD_cons_succ, List.getD_cons_zero])
          | ((with_reducible show wpX _ _ _ _ _ _ (Oper.mk _ (Op.call _) _ _ _ _ :: _) _); refine x_callf (f := 166) (args := #[.float .f32 r1, .float .f32 r2]) rfl rfl Try.func166 rfl (by kernel_rfl) ?_ ?_ ?_; (focus (simp [Act.eval]; done)); (focus (intro w1 hw1; exact (by rw [HF.out]; exact (l01Same_any r1 r2 w1 (by rw [Z1.out]; exact ha) (by rw [Z2.out]; exact hb)).mono fun e w3 h => ⟨_, h.1, by rw [h.2]; exact Ext.refl _, by rw [Z1.out, Z2.out, decide_eq_true Hq.out]⟩))); rintro u w3 e3 e4 hu; simp only [HF.out] at hu; subst hu; simp only [Act.put, ev_tmp, List.setIfInBounds_toArray, List.set_cons_succ, List.set_cons_zero, List.getD_cons_succ, List.getD_cons_zero])
          | (refine x_run rfl fun K hK w1 hw1 => ?_; go_simp; refine hK _ ?_; clear hK K  hw1 w1))
        refine x_nil ?_
        have eW := (he.trans hD).trans hwf
        go_wp2
        go_roundw
        case rel => exact ⟨i + 1, q6, c6, by omega, by go_num, by rw [HC.out], by rw [HC.out]; exact own_ext own6 (hD.trans hwf), eW⟩
        case measure => simp [intOf]; omega
      · have HC := hid (chgTo_ne hq)
        have Hq := hid hq
        clear hq
        generalize hx : xs.getD i 0 = xv at *
        generalize hy : ys.getD i 0 = yv at *
        have Hx := hid hx
        have Hy := hid hy
        clear hx hy
        generalize chgTo xs ys i = L at *
        generalize hLn : L.length = ln at *
        have HLn := hid hLn
        clear hLn
        obtain ⟨F, hF⟩ : ∃ F : Option Tmp → World → Value → Prop, F = fun d _ u => u = .bool false := ⟨_, rfl⟩
        have HF := hid hF
        clear hF
        go_wp2
        refine wp_region_xall (F := F) (by kernel_rfl) (by kernel_rfl) (by kernel_rfl) ?_
        intro wf hwf
        repeat (first
          | (refine x_skip rfl ?_; simp only [Act.put, ev_tmp, List.setIfInBounds_toArray, List.set_cons_succ, List.set_cons_zero, List.getD_cons_succ, List.getD_cons_zero])
          | (refine x_mv rfl rfl rfl ?_; simp only [Act.put, ev_tmp, List.setIfInBounds_toArray, List.set_cons_succ, List.set_cons_zero, List.getD_cons_succ, List.getD_cons_zero])
          | (refine x_as rfl rfl rfl ?_; simp only [Act.put, ev_tmp, List.setIfInBounds_toArray, List.set_cons_succ, List.set_cons_zero, List.getD_cons_succ, List.getD_cons_zero])
          | ((with_reducible show wpX _ _ _ _ _ _ (Oper.mk _ (Op.indexAddr _ _ _) _ _ _ _ :: Oper.mk _ (Op.load _ _) _ _ _ _ :: _) _); refine x_ldF rfl rfl (fun _ => rfl) rfl (fun _ => rfl) rfl rfl z3 hf3 HX.out (by omega) (by omega) ?_; intro r1 k1; rw [Int.toNat_natCast, Hx.out] at k1; have Z1 := hid k1; clear k1; simp only [Act.put, ev_tmp, List.setIfInBounds_toArray, List.set_cons_succ, List.set_cons_zero, List.getD_cons_succ, List.getD_cons_zero])
          | ((with_reducible show wpX _ _ _ _ _ _ (Oper.mk _ (Op.indexAddr _ _ _) _ _ _ _ :: Oper.mk _ (Op.load _ _) _ _ _ _ :: _) _); refine x_ldF rfl rfl (fun _ => rfl) rfl (fun _ => rfl) rfl rfl z2 hf2 HY.out (by omega) (by omega) ?_; intro r2 k2; rw [Int.toNat_natCast, Hy.out] at k2; have Z2 := hid k2; clear k2; simp only [Act.put, ev_tmp, List.setIfInBounds_toArray, List.set_cons_succ, List.set_cons_zero, List.getD_cons_succ, List.getD_cons_zero])
          | ((with_reducible show wpX _ _ _ _ _ _ (Oper.mk _ (Op.call _) _ _ _ _ :: _) _); refine x_callf (f := 166) (args := #[.float .f32 r1, .float .f32 r2]) rfl rfl Try.func166 rfl (by kernel_rfl) ?_ ?_ ?_; (focus (simp [Act.eval]; done)); (focus (intro w1 hw1; exact (by rw [HF.out]; exact (l01Same_any r1 r2 w1 (by rw [Z1.out]; exact ha) (by rw [Z2.out]; exact hb)).mono fun e w3 h => ⟨_, h.1, by rw [h.2]; exact Ext.refl _, by rw [Z1.out, Z2.out, decide_eq_false Hq.out]⟩))); rintro u w3 e3 e4 hu; simp only [HF.out] at hu; subst hu; simp only [Act.put, ev_tmp, List.setIfInBounds_toArray, List.set_cons_succ, List.set_cons_zero, List.getD_cons_succ, List.getD_cons_zero])
          | (refine x_run rfl fun K hK w1 hw1 => ?_; go_simp; refine hK _ ?_; clear hK K  hw1 w1))
        refine x_nil ?_
        have eW := (he.trans hD).trans hwf
        have own7 := own_ext own6 (hD.trans hwf)
        go_wp2_with ((with_reducible show wpList _ _ _ (Oper.mk _ (Op.buildSlice _ _ _) _ _ _ _ :: Oper.mk _ (Op.call _) _ _ _ _ :: _) _ _); refine wl_app1b (u := .int .i64 i) rfl rfl rfl rfl rfl (by rfl) (by rfl) (fun _ => rfl) (fun _ => rfl) own7 (by unfold maxLen; omega) (by omega) eW.size ?_; intro g9 c9 w9 own9 gr9 hw9)
        go_roundw
        case rel =>
          refine ⟨i + 1, some ⟨g9, 0, none⟩, c9, by omega, by go_num, ?_, ?_, eW.grown gr9 (fun kk hk => own_le own7 kk hk)⟩
          · rw [HC.out, List.length_append, HLn.out]; rfl
          · rw [HC.out, List.length_append, HLn.out, List.map_append]; exact own9
        case measure => simp [intOf]; omega
    · obtain rfl : i = n := by omega
      go_wp2
      go_ret
      exact ⟨q6, c6, rfl, own6, he⟩
end Go.Proofs.Ytangnigplachdaa
namespace Go.Proofs.Ytangnigplachdaa.lChangedNumbers
open Go.RowKit
set_option linter.unusedSimpArgs false
set_option linter.unusedVariables false
def res (a b : shTrainState.T) : List Int × Bool := if fitB a b then (chgTo (lAllNumbers.numF a.1.1 a.2.1) (lAllNumbers.numF b.1.1 b.2.1) (lAllNumbers.numF a.1.1 a.2.1).length, true) else ([], false)
theorem tot_ints0 : ∀ (l : List Int), tot (.sl .int) l = l.length := fun l => by
  have : ∀ (z : List Int), (z.map (tot .int)).sum = 0 := by intro z; induction z with | nil => rfl | cons a z ih => rw [List.map_cons, List.sum_cons, ih]; rfl
  rw [tot, this]; rfl
theorem res_bd (a b : shTrainState.T) (_ : tot shTrainState a ≤ 1048576) (_ : tot shTrainState b ≤ 1048576) (_ : Fit shTrainState a) (_ : Fit shTrainState b) : tot (.sl .int) (res a b).1 ≤ 1048576 := by
  rw [tot_ints0]
  unfold res
  split
  · rename_i h
    have h1 := (num_lens h).2
    have h2 := chgTo_le (lAllNumbers.numF a.1.1 a.2.1) (lAllNumbers.numF b.1.1 b.2.1) (lAllNumbers.numF a.1.1 a.2.1).length
    dsimp only
    omega
  · simp
theorem retI_out {w w' : World} {o : List Int} {v : Value} {e : Ending} (h : RetI w o (.returned v) w') (he : e = .returned (.tuple #[v, .bool true])) : OutOk w (.sl .int) (o, true) e w' := by
  obtain ⟨q, c, h1, h2, h3⟩ := h
  cases h1
  have h4 := own_ints.2 ⟨q, c, rfl, ownRow_of h2, (own_cap h2).1, (own_cap h2).2, rfl⟩
  refine ⟨[.slice q o.length c], _, he, h4, ?_, ?_, h3⟩
  · cases q <;> simp [blocksOf]
  · intro b hb
    cases q with
    | none => simp [blocksOf] at hb
    | some a => simp [blocksOf] at hb; subst hb; exact own_le h2 _ rfl
theorem outOk_base {w w0 w' : World} {s : Sh} {r : s.T × Bool} {e : Ending} (h : OutOk w0 s r e w') (hx : Ext w w0) : OutOk w s r e w' := by
  obtain ⟨cs, bs, h1, h2, h3, h4, h5⟩ := h
  exact ⟨cs, bs, h1, h2, h3, fun b hb => Nat.le_trans hx.size (h4 b hb), hx.trans h5⟩
set_option maxRecDepth 100000 in
set_option maxHeartbeats 4000000 in
theorem impl_ok (cs0 : List Value) (D0 : shTrainState.T) (cs1 : List Value) (D1 : shTrainState.T) (w : World) (h0 : Rep w shTrainState cs0 D0) (h1 : Rep w shTrainState cs1 D1) (f0 : Fit shTrainState D0) (f1 : Fit shTrainState D1) : Calls Try.prog 74 #[ofCs shTrainState cs0, ofCs shTrainState cs1] w (OutOk w (.sl .int) (res D0 D1)) := by
  obtain ⟨u1, u2, ub, rfl, p1, p2, p3, p4, p5, p6⟩ := tra_cells h0 f0
  obtain ⟨v1, v2, vb, rfl, r1, r2, r3, r4, r5, r6⟩ := tra_cells h1 f1
  obtain ⟨pa, ca, css, rfl, L1⟩ := lays_of p1 p3
  obtain ⟨pb, cb, us, rfl, S1⟩ := slts_of p2 p4
  obtain ⟨qa, da, csq, rfl, L2⟩ := lays_of r1 r3
  obtain ⟨qb, db, vs, rfl, S2⟩ := slts_of r2 r4
  rw [ofCs_agg rfl, ofCs_agg rfl]
  obtain ⟨W0, hW0⟩ : ∃ W0, W0 = (w.alloc (.cells #[.slice pa (List.length D0.1.1) ca, .slice pb (List.length D0.2.1) cb, .int .i64 D0.2.2.1, .int .i64 D0.2.2.2.1, .float .f32 ub] 113)).alloc (.cells #[.slice qa (List.length D1.1.1) da, .slice qb (List.length D1.2.1) db, .int .i64 D1.2.2.1, .int .i64 D1.2.2.2.1, .float .f32 vb] 113) := ⟨_, rfl⟩
  obtain ⟨E0, s0, b0, b1⟩ := box2 hW0
  have b0 : HB W0 w.heap.size #[.slice pa (List.length D0.1.1) ca, .slice pb (List.length D0.2.1) cb, .int .i64 D0.2.2.1, .int .i64 D0.2.2.2.1, .float .f32 ub] 113 := b0
  have b1 : HB W0 (w.heap.size + 1) #[.slice qa (List.length D1.1.1) da, .slice qb (List.length D1.2.1) db, .int .i64 D1.2.2.1, .int .i64 D1.2.2.2.1, .float .f32 vb] 113 := b1
  have x0 : W0.cell? ⟨w.heap.size, 0, none⟩ = some (.slice pa (List.length D0.1.1) ca) := b0.cell 0 rfl
  have x1 : W0.cell? ⟨w.heap.size, 1, none⟩ = some (.slice pb (List.length D0.2.1) cb) := b0.cell 1 rfl
  have x2 : W0.cell? ⟨w.heap.size, 2, none⟩ = some (.int .i64 D0.2.2.1) := b0.cell 2 rfl
  have x3 : W0.cell? ⟨w.heap.size, 3, none⟩ = some (.int .i64 D0.2.2.2.1) := b0.cell 3 rfl
  have x4 : W0.cell? ⟨w.heap.size, 4, none⟩ = some (.float .f32 ub) := b0.cell 4 rfl
  have y0 : W0.cell? ⟨w.heap.size + 1, 0, none⟩ = some (.slice qa (List.length D1.1.1) da) := b1.cell 0 rfl
  have y1 : W0.cell? ⟨w.heap.size + 1, 1, none⟩ = some (.slice qb (List.length D1.2.1) db) := b1.cell 1 rfl
  have y2 : W0.cell? ⟨w.heap.size + 1, 2, none⟩ = some (.int .i64 D1.2.2.1) := b1.cell 2 rfl
  have y3 : W0.cell? ⟨w.heap.size + 1, 3, none⟩ = some (.int .i64 D1.2.2.2.1) := b1.cell 3 rfl
  have y4 : W0.cell? ⟨w.heap.size + 1, 4, none⟩ = some (.float .f32 vb) := b1.cell 4 rfl
  have C1 := hid (fun W (h : Ext W0 W) => fit_any pa pb qa qb (List.length D0.1.1) ca (List.length D0.2.1) cb (List.length D1.1.1) da (List.length D1.2.1) db ub vb css csq us vs D0 D1 W (L1.ext (E0.trans h)) (S1.ext (E0.trans h)) (L2.ext (E0.trans h)) (S2.ext (E0.trans h)))
  have C2 := hid (fun W (h : Ext W0 W) hfit => changes_any pa pb qa qb (List.length D0.1.1) ca (List.length D0.2.1) cb (List.length D1.1.1) da (List.length D1.2.1) db ub vb css csq us vs D0 D1 W (L1.ext (E0.trans h)) (S1.ext (E0.trans h)) (L2.ext (E0.trans h)) (S2.ext (E0.trans h)) hfit f0 f1)
  unfold res
  clear L1 L2 S1 S2 h0 h1 f0 f1 p1 p2 p3 p4 p5 p6 r1 r2 r3 r4 r5 r6 b0 b1
  generalize List.length D0.1.1 = n0 at *
  generalize List.length D0.2.1 = n1 at *
  generalize List.length D1.1.1 = m0 at *
  generalize List.length D1.2.1 = m1 at *
  cases hb : fitB D0 D1
  · rw [hb] at C1
    clear C2 hb
    simp only [Bool.false_eq_true, if_false]
    go_enter Try.func74, Try.ntmps74
    go_wp2_with fail
    rw [← hW0]
    clear hW0
    refine (C1.out _ (Ext.refl _)).mono ?_
    rintro e w1 ⟨rfl, e1⟩
    go_wp2
    go_ret2
    exact outOk_no rfl (E0.trans e1)
  · rw [hb] at C1
    have C3 := hid (fun W h => C2.out W h hb)
    clear C2 hb
    simp only [if_true]
    generalize chgTo (lAllNumbers.numF D0.1.1 D0.2.1) (lAllNumbers.numF D1.1.1 D1.2.1) (lAllNumbers.numF D0.1.1 D0.2.1).length = L at *
    go_enter Try.func74, Try.ntmps74
    go_wp2_with fail
    rw [← hW0]
    clear hW0
    refine (C1.out _ (Ext.refl _)).mono ?_
    rintro e w1 ⟨rfl, e1⟩
    have z0 := e1.cell x0; have z1 := e1.cell x1; have z2 := e1.cell x2; have z3 := e1.cell x3; have z4 := e1.cell x4; have z5 := e1.cell y0; have z6 := e1.cell y1; have z7 := e1.cell y2; have z8 := e1.cell y3; have z9 := e1.cell y4
    go_wp2_with fail
    refine (C3.out _ e1).mono ?_
    intro e w2 h2
    have H2 := hid h2
    obtain ⟨q2, c2, rfl, _, _⟩ := h2
    go_wp2
    go_ret2
    exact outOk_base (retI_out H2.out rfl) (E0.trans e1)
set_option maxRecDepth 100000 in
set_option maxHeartbeats 4000000 in
theorem spec_ok (cs0 : List Value) (D0 : shTrainState.T) (cs1 : List Value) (D1 : shTrainState.T) (w : World) (h0 : Rep w shTrainState cs0 D0) (h1 : Rep w shTrainState cs1 D1) (f0 : Fit shTrainState D0) (f1 : Fit shTrainState D1) : Calls Try.prog 72 #[ofCs shTrainState cs0, ofCs shTrainState cs1] w (OutOk w (.sl .int) (res D0 D1)) := by
  obtain ⟨u1, u2, ub, rfl, p1, p2, p3, p4, p5, p6⟩ := tra_cells h0 f0
  obtain ⟨v1, v2, vb, rfl, r1, r2, r3, r4, r5, r6⟩ := tra_cells h1 f1
  obtain ⟨pa, ca, css, rfl, L1⟩ := lays_of p1 p3
  obtain ⟨pb, cb, us, rfl, S1⟩ := slts_of p2 p4
  obtain ⟨qa, da, csq, rfl, L2⟩ := lays_of r1 r3
  obtain ⟨qb, db, vs, rfl, S2⟩ := slts_of r2 r4
  rw [ofCs_agg rfl, ofCs_agg rfl]
  obtain ⟨W0, hW0⟩ : ∃ W0, W0 = (w.alloc (.cells #[.slice pa (List.length D0.1.1) ca, .slice pb (List.length D0.2.1) cb, .int .i64 D0.2.2.1, .int .i64 D0.2.2.2.1, .float .f32 ub] 113)).alloc (.cells #[.slice qa (List.length D1.1.1) da, .slice qb (List.length D1.2.1) db, .int .i64 D1.2.2.1, .int .i64 D1.2.2.2.1, .float .f32 vb] 113) := ⟨_, rfl⟩
  obtain ⟨E0, s0, b0, b1⟩ := box2 hW0
  have b0 : HB W0 w.heap.size #[.slice pa (List.length D0.1.1) ca, .slice pb (List.length D0.2.1) cb, .int .i64 D0.2.2.1, .int .i64 D0.2.2.2.1, .float .f32 ub] 113 := b0
  have b1 : HB W0 (w.heap.size + 1) #[.slice qa (List.length D1.1.1) da, .slice qb (List.length D1.2.1) db, .int .i64 D1.2.2.1, .int .i64 D1.2.2.2.1, .float .f32 vb] 113 := b1
  have x0 : W0.cell? ⟨w.heap.size, 0, none⟩ = some (.slice pa (List.length D0.1.1) ca) := b0.cell 0 rfl
  have x1 : W0.cell? ⟨w.heap.size, 1, none⟩ = some (.slice pb (List.length D0.2.1) cb) := b0.cell 1 rfl
  have x2 : W0.cell? ⟨w.heap.size, 2, none⟩ = some (.int .i64 D0.2.2.1) := b0.cell 2 rfl
  have x3 : W0.cell? ⟨w.heap.size, 3, none⟩ = some (.int .i64 D0.2.2.2.1) := b0.cell 3 rfl
  have x4 : W0.cell? ⟨w.heap.size, 4, none⟩ = some (.float .f32 ub) := b0.cell 4 rfl
  have y0 : W0.cell? ⟨w.heap.size + 1, 0, none⟩ = some (.slice qa (List.length D1.1.1) da) := b1.cell 0 rfl
  have y1 : W0.cell? ⟨w.heap.size + 1, 1, none⟩ = some (.slice qb (List.length D1.2.1) db) := b1.cell 1 rfl
  have y2 : W0.cell? ⟨w.heap.size + 1, 2, none⟩ = some (.int .i64 D1.2.2.1) := b1.cell 2 rfl
  have y3 : W0.cell? ⟨w.heap.size + 1, 3, none⟩ = some (.int .i64 D1.2.2.2.1) := b1.cell 3 rfl
  have y4 : W0.cell? ⟨w.heap.size + 1, 4, none⟩ = some (.float .f32 vb) := b1.cell 4 rfl
  have C1 := hid (fun W (h : Ext W0 W) => l08Fit_any w.heap.size (w.heap.size + 1) pa pb qa qb (List.length D0.1.1) ca (List.length D0.2.1) cb (List.length D1.1.1) da (List.length D1.2.1) db css csq us vs D0 D1 W (L1.ext (E0.trans h)) (S1.ext (E0.trans h)) (L2.ext (E0.trans h)) (S2.ext (E0.trans h)) (h.cell x0) (h.cell x1) (h.cell x2) (h.cell x3) (h.cell y0) (h.cell y1) (h.cell y2) (h.cell y3))
  have N1 := hid (fun (hfit : fitB D0 D1 = true) => num_lens hfit)
  have FA := hid (fun i => fit_nums f0 i)
  have FB := hid (fun i => fit_nums f1 i)
  have SA := hid (fun h => @lAllNumbers.sto_small D0.1.1 D0.2.1 D0.2.2.1 D0.2.2.2.1 h)
  have SB := hid (fun h => @lAllNumbers.sto_small D1.1.1 D1.2.1 D1.2.2.1 D1.2.2.2.1 h)
  have A1 := hid (fun W (h : Ext W0 W) h1 h2 h3 => lAllNumbers.l08All_any w.heap.size pa pb _ ca _ cb css us D0.1.1 D0.2.1 W (L1.ext (E0.trans h)) (S1.ext (E0.trans h)) h1 h2 h3 (h.cell x0) (h.cell x1))
  have A2 := hid (fun W (h : Ext W0 W) h1 h2 h3 => lAllNumbers.l08All_any (w.heap.size + 1) qa qb _ da _ db csq vs D1.1.1 D1.2.1 W (L2.ext (E0.trans h)) (S2.ext (E0.trans h)) h1 h2 h3 (h.cell y0) (h.cell y1))
  unfold res
  clear L1 L2 S1 S2 h0 h1 f0 f1 p1 p2 p3 p4 p5 p6 r1 r2 r3 r4 r5 r6 b0 b1
  generalize List.length D0.1.1 = n0 at *
  generalize List.length D0.2.1 = n1 at *
  generalize List.length D1.1.1 = m0 at *
  generalize List.length D1.2.1 = m1 at *
  cases hb : fitB D0 D1
  · rw [hb] at C1
    clear A1 A2 SA SB FA FB N1 hb
    simp only [Bool.false_eq_true, if_false]
    go_enter Try.func72, Try.ntmps72
    go_wp2_with fail
    rw [← hW0]
    clear hW0
    refine (C1.out _ (Ext.refl _)).mono ?_
    rintro e w1 ⟨rfl, e1⟩
    go_wp2
    go_ret2
    exact outOk_no rfl (E0.trans e1)
  · rw [hb] at C1
    have hf := hb
    unfold fitB at hf
    simp only [Bool.and_eq_true] at hf
    obtain ⟨a1, a2, a3⟩ := SA.out hf.1
    obtain ⟨b1, b2, b3⟩ := SB.out hf.2.1
    obtain ⟨l1, l2⟩ := N1.out hb
    have A3 := hid (fun W h => A1.out W h a1 a2 a3)
    have A4 := hid (fun W h => A2.out W h b1 b2 b3)
    clear A1 A2 SA SB N1 hb hf a1 a2 a3 b1 b2 b3
    simp only [if_true]
    generalize lAllNumbers.numF D0.1.1 D0.2.1 = xs at *
    generalize lAllNumbers.numF D1.1.1 D1.2.1 = ys at *
    generalize hn : xs.length = n at *
    have HX := hid hn
    have HY := hid l1.symm
    clear hn l1
    go_enter Try.func72, Try.ntmps72
    go_wp2_with fail
    rw [← hW0]
    clear hW0
    refine (C1.out _ (Ext.refl _)).mono ?_
    rintro e w1 ⟨rfl, e1⟩
    go_wp2_with fail
    refine (A3.out _ e1).mono ?_
    intro e w2 h2
    obtain ⟨q3, k3, vs3, rfl, own3, hf3, e2⟩ := h2
    rw [HX.out] at own3 ⊢
    go_wp2_with fail
    refine (A4.out _ (e1.trans e2)).mono ?_
    intro e w3 h3
    obtain ⟨q2, k2, vs2, rfl, own2, hf2, e3⟩ := h3
    rw [HY.out] at own2 ⊢
    have K := hid (l08Changed_any q2 q3 n k2 k3 vs2 vs3 xs ys w3 HX.out HY.out (by omega) ((own_Cs own3).ext e3) hf3 (own_Cs own2) hf2 FA.out FB.out)
    generalize chgTo xs ys n = L at *
    go_wp2_with fail
    refine K.out.mono ?_
    intro e w4 h4
    have H4 := hid h4
    obtain ⟨q4, c4, rfl, _, _⟩ := h4
    go_wp2
    go_ret2
    exact outOk_base (retI_out H4.out rfl) (E0.trans (e1.trans (e2.trans e3)))

end Go.Proofs.Ytangnigplachdaa.lChangedNumbers
