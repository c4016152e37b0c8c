/- Models: which are valid, the program's part. -/
import Derived.Test.YthphfmngofbabaaMod
namespace Go.Proofs.Ythphfmngofbabaa
set_option linter.unusedSimpArgs false
set_option linter.unusedVariables false
open Go.RowKit

set_option maxRecDepth 100000 in
set_option maxHeartbeats 4000000 in
theorem ValidModel_any (p : Option Addr) (n c : Nat) (l : List shLayer.T) (css : List (List Value)) (w : World) (hn : l.length = n) (hm : n ≤ maxLen)
    (a2 : Cs w p css.flatten) (a5 : All2 (Rep w shLayer) css l) (a6 : ∀ c ∈ css, c.length = shLayer.sz) (a7 : css.length = n) :
    Calls Try.prog 75 #[.agg #[.slice p n c]] w (RetB w (modB l)) := by
  unfold maxLen at hm
  unfold modB
  generalize hG : modGo none l = G
  have HG := hid hG
  have HL := hid hn
  clear hG
  go_enter Try.func75, Try.ntmps75
  go_wp2
  go_loopw [8] (fun iv wr => ∃ (i : Nat), i ≤ n ∧ iv = .int .i64 i ∧ Hid (modGo (prevL l i) (l.drop i) = G) ∧ Ext w wr ∧ wr.cell? ⟨w.heap.size, 0, none⟩ = some (.slice p n c) ∧ w.heap.size < wr.heap.size) (fun iv _ => n - (intOf iv).toNat)
  case atStart => exact ⟨0, by omega, rfl, by simpa [Hid, prevL] using HG.out, Ext.alloc _ _, by simp, by simp⟩
  case round =>
    obtain ⟨i, hi, rfl, HI, he, g0, hsz⟩ := hrel
    by_cases hlt : i < n
    · have hil : i < l.length := by rw [HL.out]; exact hlt
      obtain ⟨ci, hci, ri⟩ := a5.get i l[i] (by simp)
      obtain ⟨pw, cw, pb, cb, rfl, l1, l2⟩ := lay_vals ri
      have hst := HI.out
      rw [modGo_at hil] at hst
      have hs1 := a2.some_of a6 (by decide) (show 0 < css.length by omega)
      have hp := a2.ext he
      generalize hD : l[i] = d at *
      have HD := hid hD
      clear hD
      have C := hid (fun w1 => calls_retB (ValidLayer_any d.1 d.2.1 d.2.2.1 pw pb _ cw _ cb w1 l1 l2))
      have hne : w.heap.size ≠ wr.heap.size := by omega
      cases hb : layD d
      · have hG : G = false := by rw [← hst, hb]; rfl
        subst hG
        unfold layD at hb
        rw [hb] at C
        clear hb hst
        go_wp2_with ((with_reducible show wpList _ _ _ (Oper.mk _ (Op.indexAddr _ _ _) _ _ _ _ :: Oper.mk _ (Op.load _ _) _ _ _ _ :: _) _ _); refine wl_idxloadE (s := shLayer) (j := i) rfl rfl rfl rfl (fun _ => rfl) rfl rfl rfl hp a6 a7 hlt hs1 hci ?_; simp only [ofCs, Sh.agg, if_true])
        have E1 := (Ext.alloc wr (.cells #[.int .i64 d.1, .int .i64 d.2.1, .int .i64 d.2.2.1, .slice pw (List.length d.2.2.2.1) cw, .slice pb (List.length d.2.2.2.2.1) cb] 46)).trans (Ext.drew _)
        have gd := E1.cell g0
        have hpd := hp.ext E1
        obtain ⟨F, hF⟩ : ∃ F : Option Tmp → World → Value → Prop, F = fun _ _ u => u = .bool false := ⟨_, rfl⟩
        have HF := hid hF
        clear hF
        refine wp_region_xall (F := F) (by kernel_rfl) (by kernel_rfl) (by kernel_rfl) ?_
        intro wf hwf
        repeat (first
          | (refine x_skip rfl ?_; simp only [Act.put, ev_tmp, List.setIfInBounds_toArray, List.set_cons_succ, List.set_cons_zero, List.getD_cons_succ, List.getD_cons_zero])
          | (refine x_mv rfl rfl rfl ?_; simp only [Act.put, ev_tmp, List.setIfInBounds_toArray, List.set_cons_succ, List.set_cons_zero, List.getD_cons_succ, List.getD_cons_zero])
          | (refine x_as rfl rfl rfl ?_; simp only [Act.put, ev_tmp, List.setIfInBounds_toArray, List.set_cons_succ, List.set_cons_zero, List.getD_cons_succ, List.getD_cons_zero])
          | ((with_reducible show wpX _ _ _ _ _ _ (Oper.mk _ (Op.call _) _ _ _ _ :: _) _); refine x_callf (f := 72) (args := #[.agg #[.int .i64 d.1, .int .i64 d.2.1, .int .i64 d.2.2.1, .slice pw (List.length d.2.2.2.1) cw, .slice pb (List.length d.2.2.2.2.1) cb]]) rfl rfl Try.func72 rfl (by kernel_rfl) ?_ ?_ ?_; (focus (simp [Act.eval]; done)); (focus (intro w1 hw1; exact (by rw [HF.out]; exact C.out w1))); rintro u w3 e3 e4 hu; simp only [HF.out] at hu; subst hu; simp only [Act.put, ev_tmp, List.setIfInBounds_toArray, List.set_cons_succ, List.set_cons_zero, List.getD_cons_succ, List.getD_cons_zero])
          | (refine x_run rfl fun K hK w1 hw1 => ?_; have k0 := hw1.cellOf (b := wr.heap.size) (by simp); have k1 := hw1.cell (gd); go_simp; refine hK _ ?_; clear hK K k0 k1 hw1 w1))
        refine x_nil ?_
        go_wp2
        go_ret
        exact ⟨ret_bool (by simp), (he.trans E1).trans hwf⟩
      have hb2 := hb
      unfold layD at hb2
      rw [hb2] at C
      rw [hb, Bool.true_and] at hst
      clear hb hb2
      rcases Nat.eq_zero_or_pos i with h0 | h0
      · subst h0
        have hst2 : modGo (prevL l 1) (l.drop 1) = G := by rw [← hst]; simp [linkL, prevL]
        have Hst := hid hst2
        clear hst hst2
        go_wp2_with ((with_reducible show wpList _ _ _ (Oper.mk _ (Op.indexAddr _ _ _) _ _ _ _ :: Oper.mk _ (Op.load _ _) _ _ _ _ :: _) _ _); refine wl_idxloadE (s := shLayer) (j := 0) rfl rfl rfl rfl (fun _ => rfl) rfl rfl rfl hp a6 a7 hlt hs1 hci ?_; simp only [ofCs, Sh.agg, if_true])
        have E1 := (Ext.alloc wr (.cells #[.int .i64 d.1, .int .i64 d.2.1, .int .i64 d.2.2.1, .slice pw (List.length d.2.2.2.1) cw, .slice pb (List.length d.2.2.2.2.1) cb] 46)).trans (Ext.drew _)
        have gd := E1.cell g0
        have hpd := hp.ext E1
        obtain ⟨F, hF⟩ : ∃ F : Option Tmp → World → Value → Prop, F = fun _ _ u => u = .bool true := ⟨_, rfl⟩
        have HF := hid hF
        clear hF
        refine wp_region_xall (F := F) (by kernel_rfl) (by kernel_rfl) (by kernel_rfl) ?_
        intro wf hwf
        repeat (first
          | (refine x_skip rfl ?_; simp only [Act.put, ev_tmp, List.setIfInBounds_toArray, List.set_cons_succ, List.set_cons_zero, List.getD_cons_succ, List.getD_cons_zero])
          | (refine x_mv rfl rfl rfl ?_; simp only [Act.put, ev_tmp, List.setIfInBounds_toArray, List.set_cons_succ, List.set_cons_zero, List.getD_cons_succ, List.getD_cons_zero])
          | (refine x_as rfl rfl rfl ?_; simp only [Act.put, ev_tmp, List.setIfInBounds_toArray, List.set_cons_succ, List.set_cons_zero, List.getD_cons_succ, List.getD_cons_zero])
          | ((with_reducible show wpX _ _ _ _ _ _ (Oper.mk _ (Op.call _) _ _ _ _ :: _) _); refine x_callf (f := 72) (args := #[.agg #[.int .i64 d.1, .int .i64 d.2.1, .int .i64 d.2.2.1, .slice pw (List.length d.2.2.2.1) cw, .slice pb (List.length d.2.2.2.2.1) cb]]) rfl rfl Try.func72 rfl (by kernel_rfl) ?_ ?_ ?_; (focus (simp [Act.eval]; done)); (focus (intro w1 hw1; exact (by rw [HF.out]; exact C.out w1))); rintro u w3 e3 e4 hu; simp only [HF.out] at hu; subst hu; simp only [Act.put, ev_tmp, List.setIfInBounds_toArray, List.set_cons_succ, List.set_cons_zero, List.getD_cons_succ, List.getD_cons_zero])
          | (refine x_run rfl fun K hK w1 hw1 => ?_; have k0 := hw1.cellOf (b := wr.heap.size) (by simp); have k1 := hw1.cell (gd); go_simp; refine hK _ ?_; clear hK K k0 k1 hw1 w1))
        refine x_nil ?_
        go_wp2
        go_roundw
        case rel => exact ⟨1, by omega, by go_num, Hst.out, (he.trans E1).trans hwf, hwf.cell gd, by have := hwf.size; simp at this; omega⟩
        case measure => simp [intOf]; omega
      · obtain ⟨j, rfl⟩ : ∃ j, i = j + 1 := ⟨i - 1, by omega⟩
        obtain ⟨cj, hcj, rj⟩ := a5.get j l[j] (by simp)
        obtain ⟨qw, dw, qb, db, rfl, _, _⟩ := lay_vals rj
        have hlk : linkL (prevL l (j + 1)) d.2.1 = decide (d.2.1 = layO l[j]) := by simp [prevL, linkL, show j < l.length by omega]
        rw [hlk] at hst
        have hA : IntKind.i64.wrap (((j + 1 : Nat) : Int) - 1) = (j : Int) := by rw [show ((j + 1 : Nat) : Int) - 1 = (j : Int) by omega]; exact wrap_in _ (by omega) (by omega)
        have hB : IntKind.i64.wrap ((j : Int) + 1 - 1) = (j : Int) := by rw [show (j : Int) + 1 - 1 = (j : Int) by omega]; exact wrap_in _ (by omega) (by omega)
        have hC : IntKind.i64.wrap (j : Int) = (j : Int) := wrap_in _ (by omega) (by omega)
        clear hlk
        by_cases hq : d.2.1 = layO l[j]
        · have hst2 : modGo (prevL l (j + 1 + 1)) (l.drop (j + 1 + 1)) = G := by rw [← hst]; simp [hq]
          have Hst := hid hst2
          have Q := bne_f hq
          unfold layO at Q
          clear hst hst2 hq
          go_wp2_with ((with_reducible show wpList _ _ _ (Oper.mk _ (Op.indexAddr _ _ _) _ _ _ _ :: Oper.mk _ (Op.load _ _) _ _ _ _ :: _) _ _); refine wl_idxloadE (s := shLayer) (j := j + 1) rfl rfl rfl rfl (fun _ => rfl) rfl rfl rfl hp a6 a7 hlt hs1 hci ?_; simp only [ofCs, Sh.agg, if_true])
          have E1 := (Ext.alloc wr (.cells #[.int .i64 d.1, .int .i64 d.2.1, .int .i64 d.2.2.1, .slice pw (List.length d.2.2.2.1) cw, .slice pb (List.length d.2.2.2.2.1) cb] 46)).trans (Ext.drew _)
          have gd := E1.cell g0
          have hpd := hp.ext E1
          obtain ⟨F, hF⟩ : ∃ F : Option Tmp → World → Value → Prop, F = fun _ _ u => u = .bool true := ⟨_, rfl⟩
          have HF := hid hF
          clear hF
          refine wp_region_xall (F := F) (by kernel_rfl) (by kernel_rfl) (by kernel_rfl) ?_
          intro wf hwf
          repeat (first
            | (refine x_skip rfl ?_; simp only [Act.put, ev_tmp, List.setIfInBounds_toArray, List.set_cons_succ, List.set_cons_zero, List.getD_cons_succ, List.getD_cons_zero])
            | (refine x_mv rfl rfl rfl ?_; simp only [Act.put, ev_tmp, List.setIfInBounds_toArray, List.set_cons_succ, List.set_cons_zero, List.getD_cons_succ, List.getD_cons_zero])
            | (refine x_as rfl rfl rfl ?_; simp only [Act.put, ev_tmp, List.setIfInBounds_toArray, List.set_cons_succ, List.set_cons_zero, List.getD_cons_succ, List.getD_cons_zero])
            | ((with_reducible show wpX _ _ _ _ _ _ (Oper.mk _ (Op.indexAddr _ _ _) _ _ _ _ :: Oper.mk _ (Op.fieldAddr _ _ _) _ _ _ _ :: Oper.mk _ (Op.load _ _) _ _ _ _ :: _) _); refine x_ldField (f := 2) (j := j) (off := 2) rfl rfl (fun _ => rfl) rfl (fun _ _ => rfl) rfl (fun _ => rfl) (fun _ _ => rfl) fo_implLayer_2 rfl rfl (by omega) hpd a6 a7 (by omega) hs1 hcj rfl ?_; simp only [Act.put, ev_tmp, List.setIfInBounds_toArray, List.set_cons_succ, List.set_cons_zero, List.getD_cons_succ, List.getD_cons_zero])
            | ((with_reducible show wpX _ _ _ _ _ _ (Oper.mk _ (Op.call _) _ _ _ _ :: _) _); refine x_callf (f := 72) (args := #[.agg #[.int .i64 d.1, .int .i64 d.2.1, .int .i64 d.2.2.1, .slice pw (List.length d.2.2.2.1) cw, .slice pb (List.length d.2.2.2.2.1) cb]]) rfl rfl Try.func72 rfl (by kernel_rfl) ?_ ?_ ?_; (focus (simp [Act.eval]; done)); (focus (intro w1 hw1; exact (by rw [HF.out]; exact C.out w1))); rintro u w3 e3 e4 hu; simp only [HF.out] at hu; subst hu; simp only [Act.put, ev_tmp, List.setIfInBounds_toArray, List.set_cons_succ, List.set_cons_zero, List.getD_cons_succ, List.getD_cons_zero])
            | (refine x_run rfl fun K hK w1 hw1 => ?_; have k0 := hw1.cellOf (b := wr.heap.size) (by simp); have k1 := hw1.cell (gd); go_simp; refine hK _ ?_; clear hK K k0 k1 hw1 w1))
          refine x_nil ?_
          go_wp2
          go_roundw
          case rel => exact ⟨j + 1 + 1, by omega, by go_num, Hst.out, (he.trans E1).trans hwf, hwf.cell gd, by have := hwf.size; simp at this; omega⟩
          case measure => simp [intOf]; omega
        · have hG : G = false := by rw [← hst]; simp [hq]
          subst hG
          have Q := bne_t hq
          unfold layO at Q
          clear hst hq
          go_wp2_with ((with_reducible show wpList _ _ _ (Oper.mk _ (Op.indexAddr _ _ _) _ _ _ _ :: Oper.mk _ (Op.load _ _) _ _ _ _ :: _) _ _); refine wl_idxloadE (s := shLayer) (j := j + 1) rfl rfl rfl rfl (fun _ => rfl) rfl rfl rfl hp a6 a7 hlt hs1 hci ?_; simp only [ofCs, Sh.agg, if_true])
          have E1 := (Ext.alloc wr (.cells #[.int .i64 d.1, .int .i64 d.2.1, .int .i64 d.2.2.1, .slice pw (List.length d.2.2.2.1) cw, .slice pb (List.length d.2.2.2.2.1) cb] 46)).trans (Ext.drew _)
          have gd := E1.cell g0
          have hpd := hp.ext E1
          obtain ⟨F, hF⟩ : ∃ F : Option Tmp → World → Value → Prop, F = fun _ _ u => u = .bool true := ⟨_, rfl⟩
          have HF := hid hF
          clear hF
          refine wp_region_xall (F := F) (by kernel_rfl) (by kernel_rfl) (by kernel_rfl) ?_
          intro wf hwf
          repeat (first
            | (refine x_skip rfl ?_; simp only [Act.put, ev_tmp, List.setIfInBounds_toArray, List.set_cons_succ, List.set_cons_zero, List.getD_cons_succ, List.getD_cons_zero])
            | (refine x_mv rfl rfl rfl ?_; simp only [Act.put, ev_tmp, List.setIfInBounds_toArray, List.set_cons_succ, List.set_cons_zero, List.getD_cons_succ, List.getD_cons_zero])
            | (refine x_as rfl rfl rfl ?_; simp only [Act.put, ev_tmp, List.setIfInBounds_toArray, List.set_cons_succ, List.set_cons_zero, List.getD_cons_succ, List.getD_cons_zero])
            | ((with_reducible show wpX _ _ _ _ _ _ (Oper.mk _ (Op.indexAddr _ _ _) _ _ _ _ :: Oper.mk _ (Op.fieldAddr _ _ _) _ _ _ _ :: Oper.mk _ (Op.load _ _) _ _ _ _ :: _) _); refine x_ldField (f := 2) (j := j) (off := 2) rfl rfl (fun _ => rfl) rfl (fun _ _ => rfl) rfl (fun _ => rfl) (fun _ _ => rfl) fo_implLayer_2 rfl rfl (by omega) hpd a6 a7 (by omega) hs1 hcj rfl ?_; simp only [Act.put, ev_tmp, List.setIfInBounds_toArray, List.set_cons_succ, List.set_cons_zero, List.getD_cons_succ, List.getD_cons_zero])
            | ((with_reducible show wpX _ _ _ _ _ _ (Oper.mk _ (Op.call _) _ _ _ _ :: _) _); refine x_callf (f := 72) (args := #[.agg #[.int .i64 d.1, .int .i64 d.2.1, .int .i64 d.2.2.1, .slice pw (List.length d.2.2.2.1) cw, .slice pb (List.length d.2.2.2.2.1) cb]]) rfl rfl Try.func72 rfl (by kernel_rfl) ?_ ?_ ?_; (focus (simp [Act.eval]; done)); (focus (intro w1 hw1; exact (by rw [HF.out]; exact C.out w1))); rintro u w3 e3 e4 hu; simp only [HF.out] at hu; subst hu; simp only [Act.put, ev_tmp, List.setIfInBounds_toArray, List.set_cons_succ, List.set_cons_zero, List.getD_cons_succ, List.getD_cons_zero])
            | (refine x_run rfl fun K hK w1 hw1 => ?_; have k0 := hw1.cellOf (b := wr.heap.size) (by simp); have k1 := hw1.cell (gd); go_simp; refine hK _ ?_; clear hK K k0 k1 hw1 w1))
          refine x_nil ?_
          go_wp2
          go_ret
          exact ⟨ret_bool (by simp), (he.trans E1).trans hwf⟩
    · obtain rfl : i = n := by omega
      have hst := HI.out
      rw [List.drop_of_length_le (by rw [HL.out]; exact Nat.le_refl _)] at hst
      have hst2 : G = true := by rw [← hst]; simp [modGo]
      subst hst2
      have hL := HL.out
      by_cases h1 : 1 ≤ i
      · by_cases h6 : i ≤ 6
        · have h6' : (i : Int) ≤ 6 := by omega
          go_wp2
          go_ret
          exact ⟨ret_bool (by first | rfl | (rw [hL]; simp [h1, h6, h6'])), he⟩
        · have h6' : ¬ (i : Int) ≤ 6 := by omega
          go_wp2
          go_ret
          exact ⟨ret_bool (by first | rfl | (rw [hL]; simp [h1, h6, h6'])), he⟩
      · go_wp2
        go_ret
        exact ⟨ret_bool (by first | rfl | (rw [hL]; simp [h1])), he⟩
end Go.Proofs.Ythphfmngofbabaa
