/- Plans: which are valid, the program's part. -/
import Derived.Test.YtangnigplachdaaPla3
namespace Go.Proofs.Ytangnigplachdaa
set_option linter.unusedSimpArgs false
set_option linter.unusedVariables false
open Go.RowKit

set_option maxRecDepth 100000 in
set_option maxHeartbeats 1000000 in
theorem ValidPlan_any (p : Option Addr) (n c : Nat) (l : List shPlanStep.T) (css : List (List Value)) (w : World) (hn : l.length = n) (hm : n ≤ maxLen)
    (a2 : Cs w p css.flatten) (a5 : All2 (Rep w shPlanStep) css l) (a6 : ∀ c ∈ css, c.length = shPlanStep.sz) (a7 : css.length = n) :
    Calls Try.prog 156 #[.agg #[.slice p n c]] w (RetB w (plaB l)) := by
  unfold maxLen at hm
  unfold plaB
  generalize hG : plaGo none l = G
  have HG := hid hG
  have HL := hid hn
  clear hG
  go_enter Try.func156, Try.ntmps156
  go_wp2
  go_loopw [8] (fun iv wr => ∃ (i : Nat), i ≤ n ∧ iv = .int .i64 i ∧ Hid (plaGo (prevO l i) (l.drop i) = G) ∧ Ext w wr ∧ wr.cell? ⟨w.heap.size, 0, none⟩ = some (.slice p n c) ∧ w.heap.size < wr.heap.size) (fun iv _ => n - (intOf iv).toNat)
  case atStart => exact ⟨0, by omega, rfl, by simpa [Hid, prevO] using HG.out, Ext.alloc _ _, by simp, by simp⟩
  case round =>
    obtain ⟨i, hi, rfl, HI, he, g0, hsz⟩ := hrel
    by_cases hlt : i < n
    · have hil : i < l.length := by rw [HL.out]; exact hlt
      obtain ⟨ci, hci, ri⟩ := a5.get i l[i] (by simp)
      obtain ⟨pw, cw, pb, cb, ps, cq, rfl, l1, l2, l3⟩ := stp_cells ri
      have hst := HI.out
      rw [plaGo_at hil] at hst
      have hs1 := a2.some_of a6 (by decide) (show 0 < css.length by omega)
      have hp := a2.ext he
      generalize hD : l[i] = d at *
      have HD := hid hD
      clear hD
      have C := hid (fun w1 => calls_retB (isStep_any d.1 d.2.1 d.2.2.1 pw pb ps _ cw _ cb _ cq d.2.2.2.2.2.2.1 w1 l1 l2 l3))
      have hne : w.heap.size ≠ wr.heap.size := by omega
      cases hb : stpD d
      · have hG : G = false := by rw [← hst, hb]; rfl
        subst hG
        unfold stpD at hb
        rw [hb] at C
        clear hb hst
        go_wp2_with (refine wl_idxloadE (s := shPlanStep) (j := i) rfl rfl rfl rfl (fun _ => rfl) rfl rfl rfl hp a6 a7 hlt hs1 hci ?_; simp only [ofCs, Sh.agg, if_true])
        have E1 := (Ext.alloc wr (.cells #[.int .i64 d.1, .int .i64 d.2.1, .int .i64 d.2.2.1, .slice pw (List.length d.2.2.2.1) cw, .slice pb (List.length d.2.2.2.2.1) cb, .slice ps (List.length d.2.2.2.2.2.1) cq, .bool d.2.2.2.2.2.2.1] 159)).trans (Ext.drew _)
        have gd := E1.cell g0
        have hpd := hp.ext E1
        obtain ⟨F, hF⟩ : ∃ F : Option Tmp → World → Value → Prop, F = fun _ _ u => u = .bool false := ⟨_, rfl⟩
        have HF := hid hF
        clear hF
        refine wp_region_xall (F := F) (by kernel_rfl) (by kernel_rfl) (by kernel_rfl) ?_
        intro wf hwf
        repeat (first
          | (refine x_skip rfl ?_; simp only [Act.put, ev_tmp, List.setIfInBounds_toArray, List.set_cons_succ, List.set_cons_zero, List.getD_cons_succ, List.getD_cons_zero])
          | (refine x_mv rfl rfl rfl ?_; simp only [Act.put, ev_tmp, List.setIfInBounds_toArray, List.set_cons_succ, List.set_cons_zero, List.getD_cons_succ, List.getD_cons_zero])
          | (refine x_as rfl rfl rfl ?_; simp only [Act.put, ev_tmp, List.setIfInBounds_toArray, List.set_cons_succ, List.set_cons_zero, List.getD_cons_succ, List.getD_cons_zero])
          | ((with_reducible show wpX _ _ _ _ _ _ (Oper.mk _ (Op.call _) _ _ _ _ :: _) _); refine x_callf (f := 182) (args := #[.agg #[.int .i64 d.1, .int .i64 d.2.1, .int .i64 d.2.2.1, .slice pw (List.length d.2.2.2.1) cw, .slice pb (List.length d.2.2.2.2.1) cb, .slice ps (List.length d.2.2.2.2.2.1) cq, .bool d.2.2.2.2.2.2.1]]) rfl rfl Try.func182 rfl (by kernel_rfl) ?_ ?_ ?_; (focus (simp [Act.eval]; done)); (focus (intro w1 hw1; exact (by rw [HF.out]; exact C.out w1))); rintro u w3 e3 e4 hu; simp only [HF.out] at hu; subst hu; simp only [Act.put, ev_tmp, List.setIfInBounds_toArray, List.set_cons_succ, List.set_cons_zero, List.getD_cons_succ, List.getD_cons_zero])
          | (refine x_run rfl fun K hK w1 hw1 => ?_; have k0 := hw1.cellOf (b := wr.heap.size) (by simp); have k1 := hw1.cell (gd); go_simp; refine hK _ ?_; clear hK K k0 k1 hw1 w1))
        refine x_nil ?_
        go_wp2
        go_ret
        exact ⟨rfl, (he.trans E1).trans hwf⟩
      have hb2 := hb
      unfold stpD at hb2
      rw [hb2] at C
      rw [hb, Bool.true_and] at hst
      clear hb hb2
      rcases Nat.eq_zero_or_pos i with h0 | h0
      · subst h0
        have hst2 : plaGo (prevO l 1) (l.drop 1) = G := by rw [← hst]; simp [linkB, prevO]
        have Hst := hid hst2
        clear hst hst2
        go_wp2_with (refine wl_idxloadE (s := shPlanStep) (j := 0) rfl rfl rfl rfl (fun _ => rfl) rfl rfl rfl hp a6 a7 hlt hs1 hci ?_; simp only [ofCs, Sh.agg, if_true])
        have E1 := (Ext.alloc wr (.cells #[.int .i64 d.1, .int .i64 d.2.1, .int .i64 d.2.2.1, .slice pw (List.length d.2.2.2.1) cw, .slice pb (List.length d.2.2.2.2.1) cb, .slice ps (List.length d.2.2.2.2.2.1) cq, .bool d.2.2.2.2.2.2.1] 159)).trans (Ext.drew _)
        have gd := E1.cell g0
        have hpd := hp.ext E1
        obtain ⟨F, hF⟩ : ∃ F : Option Tmp → World → Value → Prop, F = fun _ _ u => u = .bool true := ⟨_, rfl⟩
        have HF := hid hF
        clear hF
        refine wp_region_xall (F := F) (by kernel_rfl) (by kernel_rfl) (by kernel_rfl) ?_
        intro wf hwf
        repeat (first
          | (refine x_skip rfl ?_; simp only [Act.put, ev_tmp, List.setIfInBounds_toArray, List.set_cons_succ, List.set_cons_zero, List.getD_cons_succ, List.getD_cons_zero])
          | (refine x_mv rfl rfl rfl ?_; simp only [Act.put, ev_tmp, List.setIfInBounds_toArray, List.set_cons_succ, List.set_cons_zero, List.getD_cons_succ, List.getD_cons_zero])
          | (refine x_as rfl rfl rfl ?_; simp only [Act.put, ev_tmp, List.setIfInBounds_toArray, List.set_cons_succ, List.set_cons_zero, List.getD_cons_succ, List.getD_cons_zero])
          | ((with_reducible show wpX _ _ _ _ _ _ (Oper.mk _ (Op.call _) _ _ _ _ :: _) _); refine x_callf (f := 182) (args := #[.agg #[.int .i64 d.1, .int .i64 d.2.1, .int .i64 d.2.2.1, .slice pw (List.length d.2.2.2.1) cw, .slice pb (List.length d.2.2.2.2.1) cb, .slice ps (List.length d.2.2.2.2.2.1) cq, .bool d.2.2.2.2.2.2.1]]) rfl rfl Try.func182 rfl (by kernel_rfl) ?_ ?_ ?_; (focus (simp [Act.eval]; done)); (focus (intro w1 hw1; exact (by rw [HF.out]; exact C.out w1))); rintro u w3 e3 e4 hu; simp only [HF.out] at hu; subst hu; simp only [Act.put, ev_tmp, List.setIfInBounds_toArray, List.set_cons_succ, List.set_cons_zero, List.getD_cons_succ, List.getD_cons_zero])
          | (refine x_run rfl fun K hK w1 hw1 => ?_; have k0 := hw1.cellOf (b := wr.heap.size) (by simp); have k1 := hw1.cell (gd); go_simp; refine hK _ ?_; clear hK K k0 k1 hw1 w1))
        refine x_nil ?_
        go_wp2
        go_roundw
        case rel => exact ⟨1, by omega, by go_num, Hst.out, (he.trans E1).trans hwf, hwf.cell gd, by have := hwf.size; simp at this; omega⟩
        case measure => simp [intOf]; omega
      · obtain ⟨j, rfl⟩ : ∃ j, i = j + 1 := ⟨i - 1, by omega⟩
        obtain ⟨cj, hcj, rj⟩ := a5.get j l[j] (by simp)
        obtain ⟨qw, dw, qb, db, qs, dq, rfl, _, _, _⟩ := stp_cells rj
        have hlk : linkB (prevO l (j + 1)) d.2.1 = decide (d.2.1 = stpO l[j]) := by simp [prevO, linkB, show j < l.length by omega]
        rw [hlk] at hst
        have hA : IntKind.i64.wrap (((j + 1 : Nat) : Int) - 1) = (j : Int) := by rw [show ((j + 1 : Nat) : Int) - 1 = (j : Int) by omega]; exact wrap_in _ (by omega) (by omega)
        have hB : IntKind.i64.wrap ((j : Int) + 1 - 1) = (j : Int) := by rw [show (j : Int) + 1 - 1 = (j : Int) by omega]; exact wrap_in _ (by omega) (by omega)
        have hC : IntKind.i64.wrap (j : Int) = (j : Int) := wrap_in _ (by omega) (by omega)
        clear hlk
        by_cases hq : d.2.1 = stpO l[j]
        · have hst2 : plaGo (prevO l (j + 1 + 1)) (l.drop (j + 1 + 1)) = G := by rw [← hst]; simp [hq]
          have Hst := hid hst2
          have Q := bne_f hq
          unfold stpO at Q
          clear hst hst2 hq
          go_wp2_with (refine wl_idxloadE (s := shPlanStep) (j := j + 1) rfl rfl rfl rfl (fun _ => rfl) rfl rfl rfl hp a6 a7 hlt hs1 hci ?_; simp only [ofCs, Sh.agg, if_true])
          have E1 := (Ext.alloc wr (.cells #[.int .i64 d.1, .int .i64 d.2.1, .int .i64 d.2.2.1, .slice pw (List.length d.2.2.2.1) cw, .slice pb (List.length d.2.2.2.2.1) cb, .slice ps (List.length d.2.2.2.2.2.1) cq, .bool d.2.2.2.2.2.2.1] 159)).trans (Ext.drew _)
          have gd := E1.cell g0
          have hpd := hp.ext E1
          obtain ⟨F, hF⟩ : ∃ F : Option Tmp → World → Value → Prop, F = fun _ _ u => u = .bool true := ⟨_, rfl⟩
          have HF := hid hF
          clear hF
          refine wp_region_xall (F := F) (by kernel_rfl) (by kernel_rfl) (by kernel_rfl) ?_
          intro wf hwf
          repeat (first
            | (refine x_skip rfl ?_; simp only [Act.put, ev_tmp, List.setIfInBounds_toArray, List.set_cons_succ, List.set_cons_zero, List.getD_cons_succ, List.getD_cons_zero])
            | (refine x_mv rfl rfl rfl ?_; simp only [Act.put, ev_tmp, List.setIfInBounds_toArray, List.set_cons_succ, List.set_cons_zero, List.getD_cons_succ, List.getD_cons_zero])
            | (refine x_as rfl rfl rfl ?_; simp only [Act.put, ev_tmp, List.setIfInBounds_toArray, List.set_cons_succ, List.set_cons_zero, List.getD_cons_succ, List.getD_cons_zero])
            | ((with_reducible show wpX _ _ _ _ _ _ (Oper.mk _ (Op.indexAddr _ _ _) _ _ _ _ :: Oper.mk _ (Op.fieldAddr _ _ _) _ _ _ _ :: Oper.mk _ (Op.load _ _) _ _ _ _ :: _) _); refine x_ldField (f := 2) (j := j) (off := 2) rfl rfl (fun _ => rfl) rfl (fun _ _ => rfl) rfl (fun _ => rfl) (fun _ _ => rfl) fo_implPlanStep_2 rfl rfl (by omega) hpd a6 a7 (by omega) hs1 hcj rfl ?_; simp only [Act.put, ev_tmp, List.setIfInBounds_toArray, List.set_cons_succ, List.set_cons_zero, List.getD_cons_succ, List.getD_cons_zero])
            | ((with_reducible show wpX _ _ _ _ _ _ (Oper.mk _ (Op.call _) _ _ _ _ :: _) _); refine x_callf (f := 182) (args := #[.agg #[.int .i64 d.1, .int .i64 d.2.1, .int .i64 d.2.2.1, .slice pw (List.length d.2.2.2.1) cw, .slice pb (List.length d.2.2.2.2.1) cb, .slice ps (List.length d.2.2.2.2.2.1) cq, .bool d.2.2.2.2.2.2.1]]) rfl rfl Try.func182 rfl (by kernel_rfl) ?_ ?_ ?_; (focus (simp [Act.eval]; done)); (focus (intro w1 hw1; exact (by rw [HF.out]; exact C.out w1))); rintro u w3 e3 e4 hu; simp only [HF.out] at hu; subst hu; simp only [Act.put, ev_tmp, List.setIfInBounds_toArray, List.set_cons_succ, List.set_cons_zero, List.getD_cons_succ, List.getD_cons_zero])
            | (refine x_run rfl fun K hK w1 hw1 => ?_; have k0 := hw1.cellOf (b := wr.heap.size) (by simp); have k1 := hw1.cell (gd); go_simp; refine hK _ ?_; clear hK K k0 k1 hw1 w1))
          refine x_nil ?_
          go_wp2
          go_roundw
          case rel => exact ⟨j + 1 + 1, by omega, by go_num, Hst.out, (he.trans E1).trans hwf, hwf.cell gd, by have := hwf.size; simp at this; omega⟩
          case measure => simp [intOf]; omega
        · have hG : G = false := by rw [← hst]; simp [hq]
          subst hG
          have Q := bne_t hq
          unfold stpO at Q
          clear hst hq
          go_wp2_with (refine wl_idxloadE (s := shPlanStep) (j := j + 1) rfl rfl rfl rfl (fun _ => rfl) rfl rfl rfl hp a6 a7 hlt hs1 hci ?_; simp only [ofCs, Sh.agg, if_true])
          have E1 := (Ext.alloc wr (.cells #[.int .i64 d.1, .int .i64 d.2.1, .int .i64 d.2.2.1, .slice pw (List.length d.2.2.2.1) cw, .slice pb (List.length d.2.2.2.2.1) cb, .slice ps (List.length d.2.2.2.2.2.1) cq, .bool d.2.2.2.2.2.2.1] 159)).trans (Ext.drew _)
          have gd := E1.cell g0
          have hpd := hp.ext E1
          obtain ⟨F, hF⟩ : ∃ F : Option Tmp → World → Value → Prop, F = fun _ _ u => u = .bool true := ⟨_, rfl⟩
          have HF := hid hF
          clear hF
          refine wp_region_xall (F := F) (by kernel_rfl) (by kernel_rfl) (by kernel_rfl) ?_
          intro wf hwf
          repeat (first
            | (refine x_skip rfl ?_; simp only [Act.put, ev_tmp, List.setIfInBounds_toArray, List.set_cons_succ, List.set_cons_zero, List.getD_cons_succ, List.getD_cons_zero])
            | (refine x_mv rfl rfl rfl ?_; simp only [Act.put, ev_tmp, List.setIfInBounds_toArray, List.set_cons_succ, List.set_cons_zero, List.getD_cons_succ, List.getD_cons_zero])
            | (refine x_as rfl rfl rfl ?_; simp only [Act.put, ev_tmp, List.setIfInBounds_toArray, List.set_cons_succ, List.set_cons_zero, List.getD_cons_succ, List.getD_cons_zero])
            | ((with_reducible show wpX _ _ _ _ _ _ (Oper.mk _ (Op.indexAddr _ _ _) _ _ _ _ :: Oper.mk _ (Op.fieldAddr _ _ _) _ _ _ _ :: Oper.mk _ (Op.load _ _) _ _ _ _ :: _) _); refine x_ldField (f := 2) (j := j) (off := 2) rfl rfl (fun _ => rfl) rfl (fun _ _ => rfl) rfl (fun _ => rfl) (fun _ _ => rfl) fo_implPlanStep_2 rfl rfl (by omega) hpd a6 a7 (by omega) hs1 hcj rfl ?_; simp only [Act.put, ev_tmp, List.setIfInBounds_toArray, List.set_cons_succ, List.set_cons_zero, List.getD_cons_succ, List.getD_cons_zero])
            | ((with_reducible show wpX _ _ _ _ _ _ (Oper.mk _ (Op.call _) _ _ _ _ :: _) _); refine x_callf (f := 182) (args := #[.agg #[.int .i64 d.1, .int .i64 d.2.1, .int .i64 d.2.2.1, .slice pw (List.length d.2.2.2.1) cw, .slice pb (List.length d.2.2.2.2.1) cb, .slice ps (List.length d.2.2.2.2.2.1) cq, .bool d.2.2.2.2.2.2.1]]) rfl rfl Try.func182 rfl (by kernel_rfl) ?_ ?_ ?_; (focus (simp [Act.eval]; done)); (focus (intro w1 hw1; exact (by rw [HF.out]; exact C.out w1))); rintro u w3 e3 e4 hu; simp only [HF.out] at hu; subst hu; simp only [Act.put, ev_tmp, List.setIfInBounds_toArray, List.set_cons_succ, List.set_cons_zero, List.getD_cons_succ, List.getD_cons_zero])
            | (refine x_run rfl fun K hK w1 hw1 => ?_; have k0 := hw1.cellOf (b := wr.heap.size) (by simp); have k1 := hw1.cell (gd); go_simp; refine hK _ ?_; clear hK K k0 k1 hw1 w1))
          refine x_nil ?_
          go_wp2
          go_ret
          exact ⟨rfl, (he.trans E1).trans hwf⟩
    · obtain rfl : i = n := by omega
      have hst := HI.out
      rw [List.drop_of_length_le (by rw [HL.out]; exact Nat.le_refl _)] at hst
      have hst2 : G = true := by rw [← hst]; simp [plaGo]
      subst hst2
      go_wp2
      go_ret
      exact ⟨ret_bool (a := decide ((i : Int) ≤ 6)) (by rw [HL.out, Bool.true_and]; exact decide_eq_decide.2 (by omega)), he⟩
end Go.Proofs.Ytangnigplachdaa
