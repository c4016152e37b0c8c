/- BatchSizes of the reference. -/
import Derived.Test.YtipojkfmbolehaaBSiz
namespace Go.Proofs.Ytipojkfmbolehaa.lBatchSizes
set_option linter.unusedSimpArgs false
set_option linter.unusedVariables false
open Go.RowKit

set_option maxRecDepth 100000 in
set_option maxHeartbeats 4000000 in
theorem spec_ok (cs0 : List Value) (D0 : shAnswerS.T) (w : World) (h0 : Rep w shAnswerS cs0 D0) : Calls Try.prog 15 #[ofCs shAnswerS cs0] w (OutOk w (.sl .int) (res D0)) := by
  obtain ⟨p, c, css, rfl, a2, a3, a4, a5, a6, a7⟩ := rep_sl h0
  have hm0 := Nat.le_trans a3 a4
  unfold maxLen at hm0
  simp only [ofCs, Sh.agg, List.headD_cons, Bool.false_eq_true, if_false]
  by_cases hl : D0.length ≤ 20
  · have hR : res D0 = fin (go [] D0) := by unfold res; simp [hl]
    rw [hR]
    clear hR h0
    generalize hG : go [] D0 = G
    have HG := hid hG
    clear hG
    generalize hL : D0.length = n at *
    have HL := hid hL
    clear hL
    have hstart : (w.alloc (.cells #[] 2)).ownsRow w.heap.size 2 1 (.slice (some ⟨w.heap.size, 0, none⟩) 0 0) 0 [] := World.ownsRow_made w #[] 0 (Nat.le_refl _) (by decide) rfl
    have e0 := Ext.alloc w (.cells #[] 2)
    go_enter Try.func15, Try.ntmps15
    go_wp2
    go_loopw [4, 5] (fun ov iv wr => ∃ (i : Nat) (o : List Int) (q : Option Addr) (cq : Nat), i ≤ n ∧ iv = .int .i64 i ∧ ov = .slice q o.length cq ∧ wr.ownsRow w.heap.size 2 1 (.slice q o.length cq) o.length (o.map (.int .i64)) ∧ Hid (go o (D0.drop i) = G) ∧ Hid (Few o i) ∧ Ext w wr) (fun _ iv _ => n - (intOf iv).toNat)
    case atStart => exact ⟨0, [], _, _, by omega, rfl, rfl, hstart, by simpa [Hid] using HG.out, ⟨by simp, by simp⟩, e0⟩
    case round =>
      clear hstart e0
      obtain ⟨i, o, q, cq, hi, rfl, rfl, own0, HI, HF, he⟩ := hrel
      have hB := he.size
      by_cases hlt : i < n
      · have hil : i < D0.length := by rw [HL.out]; exact hlt
        obtain ⟨ci, hci, ri⟩ := a5.get i D0[i] (by simp)
        have hd0 : D0.drop i = D0[i] :: D0.drop (i + 1) := List.drop_eq_getElem_cons hil
        have hst := HI.out
        rw [hd0] at hst
        clear hd0
        generalize D0[i] = Q at *
        obtain ⟨t, bt, row, u⟩ := Q
        obtain ⟨_, _, rfl, rfl, _, _, rfl, rfl, _, _, rfl, hrow, rfl⟩ := ri
        obtain ⟨pr, cr, rfl, hlr⟩ := rep_val hrow
        simp only [List.cons_append, List.nil_append] at hci
        simp only [go] at hst
        have hs1 := a2.some_of a6 (by decide) (show 0 < css.length by omega)
        have h2 := a2
        have hp := a2.ext he
        have hol : o.length ≤ i := HF.out.1
        clear a5 hrow HI
        by_cases hc1 : bt = (o.length : Int)
        · have hm : more o bt = some (o ++ [1]) := by unfold more; rw [if_pos hc1]
          rw [hm] at hst
          have Hst := hid hst
          have HF2 := hid (few_more HF.out hm)
          clear hst hm HF
          subst hc1
          have hbe := beq_t (rfl : (o.length : Int) = (o.length : Int))
          have hget : (o ++ [(0 : Int)]).getD (o.length : Int).toNat 0 = 0 := by simp
          have HIN := hid (show inB (o.length : Int) (max 0 ((o.length : Int) - 1)) o.length = true by rw [inB_true]; omega)
          obtain ⟨F, hF⟩ : ∃ F : Option Tmp → World → Value → Prop, F = fun d _ u => (match d with | some 26 => u = .int .i64 (max 0 ((o.length : Int) - 1)) | _ => u = .bool true) := ⟨_, rfl⟩
          have HFF := hid hF
          have hwr : IntKind.i64.wrap ((o.length : Int) - 1) = (o.length : Int) - 1 := wrap_in _ (by omega) (by omega)
          clear hF
          go_wp2
          refine wp_region_xall (F := F) (by kernel_rfl) (by kernel_rfl) (by kernel_rfl) ?_
          intro wf hwf
          repeat (first
            | (refine x_skip rfl ?_; simp only [Act.put, ev_tmp, List.setIfInBounds_toArray, List.set_cons_succ, List.set_cons_zero, List.getD_cons_succ, List.getD_cons_zero])
            | (refine x_mv rfl rfl rfl ?_; simp only [Act.put, ev_tmp, List.setIfInBounds_toArray, List.set_cons_succ, List.set_cons_zero, List.getD_cons_succ, List.getD_cons_zero])
            | (refine x_as rfl rfl rfl ?_; simp only [Act.put, ev_tmp, List.setIfInBounds_toArray, List.set_cons_succ, List.set_cons_zero, List.getD_cons_succ, List.getD_cons_zero])
            | (refine x_ldField (f := 1) (off := 1) (j := i) rfl rfl (fun _ => rfl) rfl (fun _ _ => rfl) rfl (fun _ => rfl) (fun _ _ => rfl) fo_implAnswer_1 rfl rfl rfl (hp.ext (Ext.drew _)) a6 a7 hlt hs1 hci rfl ?_; simp only [Act.put, ev_tmp, List.setIfInBounds_toArray, List.set_cons_succ, List.set_cons_zero, List.getD_cons_succ, List.getD_cons_zero])
            | (refine x_callf (f := 80) (args := #[.int .i64 0, .int .i64 ((o.length : Int) - 1)]) rfl rfl Try.func80 rfl (by kernel_rfl) ?_ ?_ ?_; (focus (simp [Act.eval]; done)); (focus (intro w1 hw1; exact (by rw [HFF.out]; exact calls_same (l00Max_any 0 ((o.length : Int) - 1) w1)))); rintro u w3 e3 e4 hu; simp only [HFF.out] at hu; subst hu; simp only [Act.put, ev_tmp, List.setIfInBounds_toArray, List.set_cons_succ, List.set_cons_zero, List.getD_cons_succ, List.getD_cons_zero])
            | (refine x_callf (f := 79) (args := #[.int .i64 (o.length : Int), .int .i64 (max 0 ((o.length : Int) - 1)), .int .i64 (o.length : Int)]) rfl rfl Try.func79 rfl (by kernel_rfl) ?_ ?_ ?_; (focus (simp [Act.eval]; done)); (focus (intro w1 hw1; exact (by rw [HFF.out]; have h := l00In_any (o.length : Int) (max 0 ((o.length : Int) - 1)) o.length w1; rw [HIN.out] at h; exact calls_same h))); rintro u w3 e3 e4 hu; simp only [HFF.out] at hu; subst hu; simp only [Act.put, ev_tmp, List.setIfInBounds_toArray, List.set_cons_succ, List.set_cons_zero, List.getD_cons_succ, List.getD_cons_zero])
            | (refine x_run rfl fun K hK w1 hw1 => ?_; go_simp; refine hK _ ?_; clear hK K  hw1 w1))
          refine x_nil ?_
          have hex := he.trans ((Ext.drew _).trans hwf)
          have hB2 := hex.size
          replace own0 := own_ext own0 ((Ext.drew _).trans hwf)
          replace hp := hp.ext ((Ext.drew _).trans hwf)
          go_wp2_with (first
            | ((with_reducible show wpList _ _ _ (Oper.mk _ (Op.indexAddr _ _ _) _ _ _ _ :: Oper.mk _ (Op.fieldAddr _ _ _) _ _ _ _ :: _) _ _); refine wl_ldField (f := 1) (off := 1) (j := i) rfl rfl rfl rfl rfl rfl (fun _ => rfl) (fun _ _ => rfl) fo_implAnswer_1 rfl rfl rfl hp a6 a7 hlt hs1 hci rfl ?_)
            | ((with_reducible show wpList _ _ _ (Oper.mk _ (Op.buildSlice _ _ _) _ _ _ _ :: Oper.mk _ (Op.call _) _ _ _ _ :: _) _ _); refine wl_app1b (u := .int .i64 0) rfl rfl rfl rfl rfl rfl rfl (fun _ => rfl) (fun _ => rfl) own0 (by unfold maxLen; omega) (by omega) (by omega) ?_; intro g c1 w1 own1 g1 hg1; have own2 : w1.ownsRow w.heap.size 2 1 (.slice (some ⟨g, 0, none⟩) (o.length + 1) c1) (o.length + 1) ((o ++ [0]).map (Value.int .i64)) := (by rw [List.map_append]; exact own1); have e1 := hex.grown g1 (fun k hk => own_le own0 k hk); replace hp := h2.ext e1)
            | ((with_reducible show wpList _ _ _ (Oper.mk _ (Op.indexAddr _ _ _) _ _ _ _ :: Oper.mk _ (Op.load _ _) _ _ _ _ :: _) _ _); refine wl_ldI rfl rfl rfl rfl (fun _ => rfl) rfl rfl (own_Cs own2) (by simp) (by omega) (by omega) ?_; rw [hget])
            | ((with_reducible show wpList _ _ _ (Oper.mk _ (Op.indexAddr _ _ _) _ _ _ _ :: Oper.mk _ (Op.store _ _ _) _ _ _ _ :: _) _ _); refine wl_stI (u := 1) rfl rfl rfl rfl (fun _ => rfl) rfl rfl (fun _ => rfl) own2 (by omega) (by omega) ?_; intro w2 own3 g2))
          go_roundw
          case rel =>
            have hs : (o ++ [(0 : Int)]).set (o.length : Int).toNat 1 = o ++ [1] := by simp
            rw [hs] at own3
            exact ⟨i + 1, o ++ [1], _, _, by omega, by go_num, by simp; exact ⟨rfl, rfl⟩, by simpa using own3, Hst.out, HF2.out, e1.grown g2 (fun k hk => own_le own2 k hk)⟩
          case measure => simp [intOf]; omega
        · by_cases hc2 : bt = (o.length : Int) - 1 ∧ o.length ≠ 0
          · have hm : more o bt = some (o.set (o.length - 1) (o.getD (o.length - 1) 0 + 1)) := by unfold more; rw [if_neg hc1, if_pos hc2]
            rw [hm] at hst
            have Hst := hid hst
            have HF2 := hid (few_more HF.out hm)
            have hx : 0 ≤ o.getD (o.length - 1) 0 ∧ o.getD (o.length - 1) 0 ≤ i := by
              have hlt2 : o.length - 1 < o.length := by omega
              have he2 : o.getD (o.length - 1) 0 = o[o.length - 1] := by simp [hlt2]
              rw [he2]
              exact HF.out.2 _ (List.getElem_mem hlt2)
            obtain ⟨rfl, hz⟩ := hc2
            clear hst hm HF
            have hto : ((o.length : Int) - 1).toNat = o.length - 1 := by omega
            have hbe := beq_f hc1
            have hbn := bne_f (rfl : (o.length : Int) - 1 = (o.length : Int) - 1)
            have hb0 := beq_f (show ¬ (o.length : Int) = 0 by omega)
            generalize hX : o.getD (o.length - 1) 0 = X at *
            have HX := hid hX
            clear hX
            have HIN := hid (show inB ((o.length : Int) - 1) (max 0 ((o.length : Int) - 1)) o.length = true by rw [inB_true]; omega)
            obtain ⟨F, hF⟩ : ∃ F : Option Tmp → World → Value → Prop, F = fun d _ u => (match d with | some 26 => u = .int .i64 (max 0 ((o.length : Int) - 1)) | _ => u = .bool true) := ⟨_, rfl⟩
            have HFF := hid hF
            have hwr : IntKind.i64.wrap ((o.length : Int) - 1) = (o.length : Int) - 1 := wrap_in _ (by omega) (by omega)
            clear hF
            go_wp2
            refine wp_region_xall (F := F) (by kernel_rfl) (by kernel_rfl) (by kernel_rfl) ?_
            intro wf hwf
            repeat (first
              | (refine x_skip rfl ?_; simp only [Act.put, ev_tmp, List.setIfInBounds_toArray, List.set_cons_succ, List.set_cons_zero, List.getD_cons_succ, List.getD_cons_zero])
              | (refine x_mv rfl rfl rfl ?_; simp only [Act.put, ev_tmp, List.setIfInBounds_toArray, List.set_cons_succ, List.set_cons_zero, List.getD_cons_succ, List.getD_cons_zero])
              | (refine x_as rfl rfl rfl ?_; simp only [Act.put, ev_tmp, List.setIfInBounds_toArray, List.set_cons_succ, List.set_cons_zero, List.getD_cons_succ, List.getD_cons_zero])
              | (refine x_ldField (f := 1) (off := 1) (j := i) rfl rfl (fun _ => rfl) rfl (fun _ _ => rfl) rfl (fun _ => rfl) (fun _ _ => rfl) fo_implAnswer_1 rfl rfl rfl (hp.ext (Ext.drew _)) a6 a7 hlt hs1 hci rfl ?_; simp only [Act.put, ev_tmp, List.setIfInBounds_toArray, List.set_cons_succ, List.set_cons_zero, List.getD_cons_succ, List.getD_cons_zero])
              | (refine x_callf (f := 80) (args := #[.int .i64 0, .int .i64 ((o.length : Int) - 1)]) rfl rfl Try.func80 rfl (by kernel_rfl) ?_ ?_ ?_; (focus (simp [Act.eval]; done)); (focus (intro w1 hw1; exact (by rw [HFF.out]; exact calls_same (l00Max_any 0 ((o.length : Int) - 1) w1)))); rintro u w3 e3 e4 hu; simp only [HFF.out] at hu; subst hu; simp only [Act.put, ev_tmp, List.setIfInBounds_toArray, List.set_cons_succ, List.set_cons_zero, List.getD_cons_succ, List.getD_cons_zero])
              | (refine x_callf (f := 79) (args := #[.int .i64 ((o.length : Int) - 1), .int .i64 (max 0 ((o.length : Int) - 1)), .int .i64 (o.length : Int)]) rfl rfl Try.func79 rfl (by kernel_rfl) ?_ ?_ ?_; (focus (simp [Act.eval]; done)); (focus (intro w1 hw1; exact (by rw [HFF.out]; have h := l00In_any ((o.length : Int) - 1) (max 0 ((o.length : Int) - 1)) o.length w1; rw [HIN.out] at h; exact calls_same h))); rintro u w3 e3 e4 hu; simp only [HFF.out] at hu; subst hu; simp only [Act.put, ev_tmp, List.setIfInBounds_toArray, List.set_cons_succ, List.set_cons_zero, List.getD_cons_succ, List.getD_cons_zero])
              | (refine x_run rfl fun K hK w1 hw1 => ?_; go_simp; refine hK _ ?_; clear hK K  hw1 w1))
            refine x_nil ?_
            have hex := he.trans ((Ext.drew _).trans hwf)
            have hB2 := hex.size
            replace own0 := own_ext own0 ((Ext.drew _).trans hwf)
            replace hp := hp.ext ((Ext.drew _).trans hwf)
            go_wp2_with (first
              | ((with_reducible show wpList _ _ _ (Oper.mk _ (Op.indexAddr _ _ _) _ _ _ _ :: Oper.mk _ (Op.fieldAddr _ _ _) _ _ _ _ :: _) _ _); refine wl_ldField (f := 1) (off := 1) (j := i) rfl rfl rfl rfl rfl rfl (fun _ => rfl) (fun _ _ => rfl) fo_implAnswer_1 rfl rfl rfl hp a6 a7 hlt hs1 hci rfl ?_)
              | ((with_reducible show wpList _ _ _ (Oper.mk _ (Op.indexAddr _ _ _) _ _ _ _ :: Oper.mk _ (Op.load _ _) _ _ _ _ :: _) _ _); refine wl_ldI rfl rfl rfl rfl (fun _ => rfl) rfl rfl (own_Cs own0) rfl (by omega) (by omega) ?_; rw [hto, HX.out])
              | ((with_reducible show wpList _ _ _ (Oper.mk _ (Op.indexAddr _ _ _) _ _ _ _ :: Oper.mk _ (Op.store _ _ _) _ _ _ _ :: _) _ _); refine wl_stI (u := X + 1) rfl rfl rfl rfl (fun _ => rfl) rfl rfl (fun _ => rfl) own0 (by omega) (by omega) ?_; intro w2 own3 g2))
            go_roundw
            case rel =>
              rw [hto] at own3
              exact ⟨i + 1, o.set (o.length - 1) (X + 1), q, cq, by omega, by go_num, by rw [List.length_set], by rw [List.length_set]; exact own3, Hst.out, HF2.out, hex.grown g2 (fun k hk => own_le own0 k hk)⟩
            case measure => simp [intOf]; omega
          · have hm : more o bt = none := by unfold more; rw [if_neg hc1, if_neg hc2]
            rw [hm] at hst
            have hst2 : G = none := hst.symm
            subst hst2
            clear hst hm
            have key : ∀ b : Int, ¬ b = (o.length : Int) → ¬ (b = (o.length : Int) - 1 ∧ o.length ≠ 0) → inB b (max 0 ((o.length : Int) - 1)) o.length = false := by
              intro b h1 h2; rw [inB_false]; omega
            have hin := key bt hc1 hc2
            clear key
            have HIN := hid hin
            clear hin
            obtain ⟨F, hF⟩ : ∃ F : Option Tmp → World → Value → Prop, F = fun d _ u => (match d with | some 26 => u = .int .i64 (max 0 ((o.length : Int) - 1)) | _ => u = .bool false) := ⟨_, rfl⟩
            have HFF := hid hF
            have hwr : IntKind.i64.wrap ((o.length : Int) - 1) = (o.length : Int) - 1 := wrap_in _ (by omega) (by omega)
            clear hF
            go_wp2
            refine wp_region_xall (F := F) (by kernel_rfl) (by kernel_rfl) (by kernel_rfl) ?_
            intro wf hwf
            repeat (first
              | (refine x_skip rfl ?_; simp only [Act.put, ev_tmp, List.setIfInBounds_toArray, List.set_cons_succ, List.set_cons_zero, List.getD_cons_succ, List.getD_cons_zero])
              | (refine x_mv rfl rfl rfl ?_; simp only [Act.put, ev_tmp, List.setIfInBounds_toArray, List.set_cons_succ, List.set_cons_zero, List.getD_cons_succ, List.getD_cons_zero])
              | (refine x_as rfl rfl rfl ?_; simp only [Act.put, ev_tmp, List.setIfInBounds_toArray, List.set_cons_succ, List.set_cons_zero, List.getD_cons_succ, List.getD_cons_zero])
              | (refine x_ldField (f := 1) (off := 1) (j := i) rfl rfl (fun _ => rfl) rfl (fun _ _ => rfl) rfl (fun _ => rfl) (fun _ _ => rfl) fo_implAnswer_1 rfl rfl rfl (hp.ext (Ext.drew _)) a6 a7 hlt hs1 hci rfl ?_; simp only [Act.put, ev_tmp, List.setIfInBounds_toArray, List.set_cons_succ, List.set_cons_zero, List.getD_cons_succ, List.getD_cons_zero])
              | (refine x_callf (f := 80) (args := #[.int .i64 0, .int .i64 ((o.length : Int) - 1)]) rfl rfl Try.func80 rfl (by kernel_rfl) ?_ ?_ ?_; (focus (simp [Act.eval]; done)); (focus (intro w1 hw1; exact (by rw [HFF.out]; exact calls_same (l00Max_any 0 ((o.length : Int) - 1) w1)))); rintro u w3 e3 e4 hu; simp only [HFF.out] at hu; subst hu; simp only [Act.put, ev_tmp, List.setIfInBounds_toArray, List.set_cons_succ, List.set_cons_zero, List.getD_cons_succ, List.getD_cons_zero])
              | (refine x_callf (f := 79) (args := #[.int .i64 bt, .int .i64 (max 0 ((o.length : Int) - 1)), .int .i64 (o.length : Int)]) rfl rfl Try.func79 rfl (by kernel_rfl) ?_ ?_ ?_; (focus (simp [Act.eval]; done)); (focus (intro w1 hw1; exact (by rw [HFF.out]; have h := l00In_any bt (max 0 ((o.length : Int) - 1)) o.length w1; rw [HIN.out] at h; exact calls_same h))); rintro u w3 e3 e4 hu; simp only [HFF.out] at hu; subst hu; simp only [Act.put, ev_tmp, List.setIfInBounds_toArray, List.set_cons_succ, List.set_cons_zero, List.getD_cons_succ, List.getD_cons_zero])
              | (refine x_run rfl fun K hK w1 hw1 => ?_; go_simp; refine hK _ ?_; clear hK K  hw1 w1))
            refine x_nil ?_
            have hex := he.trans ((Ext.drew _).trans hwf)
            have hB2 := hex.size
            replace own0 := own_ext own0 ((Ext.drew _).trans hwf)
            replace hp := hp.ext ((Ext.drew _).trans hwf)
            go_wp2
            go_ret2
            exact outOk_no rfl hex
      · obtain rfl : i = n := by omega
        have hst := HI.out
        rw [List.drop_of_length_le (by rw [HL.out]; exact Nat.le_refl _)] at hst
        simp only [go] at hst
        subst hst
        go_wp2
        go_ret2
        exact own_outs own0 rfl he
  · have hR : res D0 = ([], false) := by unfold res; simp [hl]
    rw [hR]
    clear hR h0 a5 a7 a2
    generalize D0.length = n at *
    go_enter Try.func15, Try.ntmps15
    go_wp2
    go_ret2
    exact outOk_no rfl (Ext.refl _)
end Go.Proofs.Ytipojkfmbolehaa.lBatchSizes
