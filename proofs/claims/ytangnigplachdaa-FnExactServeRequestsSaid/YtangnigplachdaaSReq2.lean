/- ServeRequests, the reference's part. -/
import Derived.Test.YtangnigplachdaaSReq
import Derived.Test.YtangnigplachdaaKf
import Derived.Test.YtangnigplachdaaFldW
namespace Go.Proofs.Ytangnigplachdaa.lServeRequests
set_option linter.unusedSimpArgs false
set_option linter.unusedVariables false
open Go.RowKit

set_option maxRecDepth 100000 in
set_option maxHeartbeats 4000000 in
theorem spec_ok (cs0 : List Value) (D0 : shModel.T) (cs1 : List Value) (D1 : shRequestS.T) (z wt wk : Int) (w : World) (h0 : Rep w shModel cs0 D0) (h1 : Rep w shRequestS cs1 D1) (f0 : Fit shModel D0) (_ : Fit shRequestS D1) (_ : Fit .int z) (_ : Fit .int wt) (_ : Fit .int wk) : Calls Try.prog 52 #[ofCs shModel cs0, ofCs shRequestS cs1, .int .i64 z, .int .i64 wt, .int .i64 wk] w (OutOk w shAnswerS (res D0 D1 z wt wk)) := by
  obtain ⟨L0, u0⟩ := D0
  obtain ⟨c0, c1, rfl, k0, rfl⟩ := h0
  obtain ⟨p, c, rfl, _⟩ := rep_val k0
  obtain ⟨p', c', css, he0, L⟩ := lays_of k0 f0.1
  cases he0
  obtain ⟨q, cq, csq, rfl, hnc, HR⟩ := reqs_of h1
  have hnq := HR.le
  unfold maxLen at hnq
  simp only [ofCs, Sh.agg, List.headD_cons, Bool.false_eq_true, if_false, if_true, List.append_nil]
  obtain ⟨W0, hW0⟩ : ∃ W0, W0 = w.alloc (.cells #[.slice p L0.length c] 32) := ⟨_, rfl⟩
  have E0 : Ext w W0 := by subst hW0; exact Ext.alloc _ _
  have a0 : W0.cell? ⟨w.heap.size, 0, none⟩ = some (.slice p L0.length c) := by subst hW0; simp
  have A := hid (fun W (h : Ext W0 W) => l03Is_any (sp := none) w.heap.size 0 p L0.length c L0 css W (h.cell a0) L.len L.le (L.cs.ext (E0.trans h)) (L.all.imp fun _ _ => Rep.ext (E0.trans h)) L.size L.cnt)
  have AI := hid (fun W (h : Ext W0 W) h1 => l03In_any (sp := none) w.heap.size 0 p L0.length c css L0 W (L.ext (E0.trans h)) h1 (h.cell a0))
  have B1 := hid (fun W => l00In_any z 1 16 W)
  have B2 := hid (fun W => l00In_any wt 0 100000 W)
  have B3 := hid (fun W => l00In_any wk 1 100000 W)
  have hno := hid (fun (h : reqB L0 D1 = false ∨ inB z 1 16 = false ∨ inB wt 0 100000 = false ∨ inB wk 1 100000 = false) => res_no (L := (L0, u0)) (l := D1) (z := z) (wt := wt) (wk := wk) (fun h' => by obtain ⟨h2, h3, h4, h5⟩ := h'; dsimp only at h2; rw [h2, h3, h4, h5] at h; simp at h))
  have hreq : reqB L0 D1 = (modB L0 && (decide (List.length D1 ≤ 20) && reqGo (inL L0 0) none D1)) := rfl
  cases hb0 : modB L0
  · rw [hno.out (.inl (by rw [hreq, hb0, Bool.false_and]))]
    rw [hb0] at A
    clear k0 L HR h1 f0
    generalize L0.length = n0 at *
    generalize List.length D1 = n at *
    go_enter Try.func52, Try.ntmps52
    go_wp2_with fail
    rw [← hW0]
    clear hW0
    have e1 := Ext.refl W0
    go_wp2_with (first | (go_at_call 79; refine (A.out _ e1).mono ?_; rintro e w1 ⟨rfl, e2⟩; replace e1 := e1.trans e2; clear e2) | (go_at_call 115; (first | with_reducible refine (B1.out _).mono ?_ | with_reducible refine (B2.out _).mono ?_ | with_reducible refine (B3.out _).mono ?_); rintro e w2 ⟨rfl, rfl⟩))
    go_ret2
    exact outOk_no rfl (E0.trans e1)
  rw [hb0] at A
  by_cases h20 : ¬ (List.length D1 ≤ 20)
  · rw [hno.out (.inl (by rw [hreq, hb0, decide_eq_false h20]; rfl))]
    have hgt : decide ((List.length D1 : Int) > 20) = true := by simp; omega
    have hgt2 : decide (20 < (List.length D1 : Int)) = true := by simp; omega
    clear k0 L HR h1 f0
    generalize L0.length = n0 at *
    generalize List.length D1 = n at *
    go_enter Try.func52, Try.ntmps52
    go_wp2_with fail
    rw [← hW0]
    clear hW0
    have e1 := Ext.refl W0
    go_wp2_with (first | (go_at_call 79; refine (A.out _ e1).mono ?_; rintro e w1 ⟨rfl, e2⟩; replace e1 := e1.trans e2; clear e2) | (go_at_call 115; (first | with_reducible refine (B1.out _).mono ?_ | with_reducible refine (B2.out _).mono ?_ | with_reducible refine (B3.out _).mono ?_); rintro e w2 ⟨rfl, rfl⟩))
    go_ret2
    exact outOk_no rfl (E0.trans e1)
  have h20 : List.length D1 ≤ 20 := by omega
  have hgt : decide ((List.length D1 : Int) > 20) = false := by simp; omega
  have hgt2 : decide (20 < (List.length D1 : Int)) = false := by simp; omega
  cases hb1 : inB z 1 16
  · rw [hno.out (.inr (.inl hb1))]
    rw [hb1] at B1
    clear k0 L HR h1 f0
    generalize L0.length = n0 at *
    generalize List.length D1 = n at *
    go_enter Try.func52, Try.ntmps52
    go_wp2_with fail
    rw [← hW0]
    clear hW0
    have e1 := Ext.refl W0
    go_wp2_with (first | (go_at_call 79; refine (A.out _ e1).mono ?_; rintro e w1 ⟨rfl, e2⟩; replace e1 := e1.trans e2; clear e2) | (go_at_call 115; (first | with_reducible refine (B1.out _).mono ?_ | with_reducible refine (B2.out _).mono ?_ | with_reducible refine (B3.out _).mono ?_); rintro e w2 ⟨rfl, rfl⟩))
    go_ret2
    exact outOk_no rfl (E0.trans e1)
  rw [hb1] at B1
  cases hb2 : inB wt 0 100000
  · rw [hno.out (.inr (.inr (.inl hb2)))]
    rw [hb2] at B2
    clear k0 L HR h1 f0
    generalize L0.length = n0 at *
    generalize List.length D1 = n at *
    go_enter Try.func52, Try.ntmps52
    go_wp2_with fail
    rw [← hW0]
    clear hW0
    have e1 := Ext.refl W0
    go_wp2_with (first | (go_at_call 79; refine (A.out _ e1).mono ?_; rintro e w1 ⟨rfl, e2⟩; replace e1 := e1.trans e2; clear e2) | (go_at_call 115; (first | with_reducible refine (B1.out _).mono ?_ | with_reducible refine (B2.out _).mono ?_ | with_reducible refine (B3.out _).mono ?_); rintro e w2 ⟨rfl, rfl⟩))
    go_ret2
    exact outOk_no rfl (E0.trans e1)
  rw [hb2] at B2
  cases hb3 : inB wk 1 100000
  · rw [hno.out (.inr (.inr (.inr hb3)))]
    rw [hb3] at B3
    clear k0 L HR h1 f0
    generalize L0.length = n0 at *
    generalize List.length D1 = n at *
    go_enter Try.func52, Try.ntmps52
    go_wp2_with fail
    rw [← hW0]
    clear hW0
    have e1 := Ext.refl W0
    go_wp2_with (first | (go_at_call 79; refine (A.out _ e1).mono ?_; rintro e w1 ⟨rfl, e2⟩; replace e1 := e1.trans e2; clear e2) | (go_at_call 115; (first | with_reducible refine (B1.out _).mono ?_ | with_reducible refine (B2.out _).mono ?_ | with_reducible refine (B3.out _).mono ?_); rintro e w2 ⟨rfl, rfl⟩))
    go_ret2
    exact outOk_no rfl (E0.trans e1)
  rw [hb3] at B3
  rw [hb0, decide_eq_true h20, Bool.true_and, Bool.true_and] at hreq
  have hM := modOk hb0
  replace AI := hid (fun W h => AI.out W h hM.pos)
  have hyes := hid (fun (h : reqB L0 D1 = true) => show okD (L0, u0) D1 z wt wk from ⟨h, hb1, hb2, hb3⟩)
  have l1 := HR.cs; have l2 := HR.all; have l3 := HR.size; have l5 := hid HR.cnt
  have hMm := hid hM
  have St := hid (fun W (h : Ext W0 W) j (hj : j < List.length D1) (hRq : ReqOk (inL L0 0) D1) q5 m5 c5 (hX : Rep W (.sl .flt) [.slice q5 m5 c5] (rowR D1 j)) => l03Row_any (sp := none) w.heap.size 0 p q5 L0.length c m5 c5 css L0 (rowR D1 j) W (L.ext (E0.trans h)) hM (h.cell a0) hX (hRq.len j hj))
  generalize hI : inL L0 0 = I at *
  generalize hG0 : reqGo I none D1 = G at *
  have HG := hid hG0
  have HI0 := hid hI
  have hreq2 := hid hreq
  clear hreq hG0 hI h1 hM k0 L HR
  generalize hnq0 : List.length D1 = nq at *
  have HN := hid hnq0
  clear hnq0
  generalize hL00 : L0.length = n0 at *
  have Hlen := hid hL00
  clear hL00
  go_enter Try.func52, Try.ntmps52
  go_wp2_with fail
  rw [← hW0]
  clear hW0
  have e1 := Ext.refl W0
  go_wp2_with (first | (go_at_call 79; refine (A.out _ e1).mono ?_; rintro e w1 ⟨rfl, e2⟩; replace e1 := e1.trans e2; clear e2) | (go_at_call 115; (first | with_reducible refine (B1.out _).mono ?_ | with_reducible refine (B2.out _).mono ?_ | with_reducible refine (B3.out _).mono ?_); rintro e w2 ⟨rfl, rfl⟩))
  go_loopw [12] (fun iv wr => ∃ (i : Nat), i ≤ nq ∧ iv = .int .i64 i ∧ Hid (reqGo I (prevA D1 i) (D1.drop i) = G) ∧ Ext W0 wr) (fun iv _ => nq - (intOf iv).toNat)
  case atStart => exact ⟨0, by omega, rfl, by simpa [Hid, prevA] using HG.out, e1⟩
  case round =>
    clear HG e1
    obtain ⟨i, hi, rfl, HI, he⟩ := hrel
    by_cases hlt : i < nq
    · have hil : i < D1.length := by rw [HN.out]; exact hlt
      obtain ⟨ci, hci, ri⟩ := l2.get i D1[i] (by simp)
      have hs1 : q.isSome = true := l1.some_of l3 (by decide) (show 0 < csq.length by rw [l5.out]; omega)
      obtain ⟨pr, cr, rfl, _, _⟩ := req_cells ri
      have hst := HI.out
      rw [reqGo_at hil] at hst
      generalize D1[i].1 = tA at *
      generalize (List.length D1[i].2.1) = m at *
      have hp := l1.ext (E0.trans he)
      have BA := hid (fun W => l00In_any tA 0 100000 W)
      clear ri
      cases hin : inB tA 0 100000
      · have hG := hid (show false = G by rw [← hst, hin]; simp)
        have HIN := hid hin
        clear hst hin
        go_wp2_with fail
        have hD := Ext.drew wr
        have hpD := hp.ext hD
        have hWD := he.trans hD
        obtain ⟨F, hF⟩ : ∃ F : Option Tmp → World → Value → Prop, F = fun d _ u => match d with | some 52 => u = .bool false | _ => u = .int .i64 I := ⟨_, rfl⟩
        have HF := hid hF
        clear hF
        refine wp_region_xall (F := F) (by kernel_rfl) (by kernel_rfl) (by kernel_rfl) ?_
        intro wf hwf
        repeat (first
          | (refine x_skip rfl ?_; simp only [Act.put, ev_tmp, List.setIfInBounds_toArray, List.set_cons_succ, List.set_cons_zero, List.getD_cons_succ, List.getD_cons_zero])
          | (refine x_mv rfl rfl rfl ?_; simp only [Act.put, ev_tmp, List.setIfInBounds_toArray, List.set_cons_succ, List.set_cons_zero, List.getD_cons_succ, List.getD_cons_zero])
          | (refine x_as rfl rfl rfl ?_; simp only [Act.put, ev_tmp, List.setIfInBounds_toArray, List.set_cons_succ, List.set_cons_zero, List.getD_cons_succ, List.getD_cons_zero])
          | ((with_reducible show wpX _ _ _ _ _ _ (Oper.mk _ (Op.indexAddr _ _ _) _ _ _ _ :: Oper.mk _ (Op.fieldAddr _ _ _) _ _ _ _ :: Oper.mk _ (Op.load _ _) _ _ _ _ :: _) _); refine x_ldField (f := 0) (off := 0) (j := i) rfl rfl (fun _ => rfl) rfl (fun _ _ => rfl) rfl (fun _ => rfl) (fun _ _ => rfl) fo_implRequest_0 rfl rfl rfl hpD l3 l5.out (by omega) hs1 hci rfl ?_; simp only [Act.put, ev_tmp, List.setIfInBounds_toArray, List.set_cons_succ, List.set_cons_zero, List.getD_cons_succ, List.getD_cons_zero])
          | ((with_reducible show wpX _ _ _ _ _ _ (Oper.mk _ (Op.call _) _ _ _ _ :: _) _); refine x_callf (f := 115) (args := #[.int .i64 tA, .int .i64 0, .int .i64 100000]) rfl rfl Try.func115 rfl (by kernel_rfl) ?_ ?_ ?_; (focus (simp [Act.eval]; done)); (focus (intro w1 hw1; exact (by rw [HF.out]; exact calls_same (by have h := BA.out w1; rw [HIN.out] at h; exact h)))); rintro u w3 e3 e4 hu; simp only [HF.out] at hu; subst hu; simp only [Act.put, ev_tmp, List.setIfInBounds_toArray, List.set_cons_succ, List.set_cons_zero, List.getD_cons_succ, List.getD_cons_zero])
          | (refine x_run rfl fun K hK w1 hw1 => ?_; go_simp; refine hK _ ?_; clear hK K  hw1 w1))
        refine x_nil ?_
        go_wp2
        go_ret2
        rw [hno.out (.inl (by rw [hreq2.out]; exact hG.out.symm))]
        exact outOk_no rfl ((E0.trans hWD).trans hwf)
      · have HIN := hid hin
        rw [hin, Bool.true_and] at hst
        clear hin
        by_cases h0 : i = 0
        · subst h0
          have ho : ordB (prevA D1 0) tA = true := rfl
          rw [ho, Bool.true_and] at hst
          by_cases hm2 : (m : Int) = I
          · have Hst := hid (show reqGo I (prevA D1 (0 + 1)) (D1.drop (0 + 1)) = G by rw [← hst]; simp [hm2])
            have hE := bne_f hm2
            clear hst ho hm2
            go_wp2_with fail
            have hD := Ext.drew wr
            have hpD := hp.ext hD
            have hWD := he.trans hD
            obtain ⟨F, hF⟩ : ∃ F : Option Tmp → World → Value → Prop, F = fun d _ u => match d with | some 52 => u = .bool true | _ => u = .int .i64 I := ⟨_, rfl⟩
            have HF := hid hF
            clear hF
            refine wp_region_xall (F := F) (by kernel_rfl) (by kernel_rfl) (by kernel_rfl) ?_
            intro wf hwf
            repeat (first
              | (refine x_skip rfl ?_; simp only [Act.put, ev_tmp, List.setIfInBounds_toArray, List.set_cons_succ, List.set_cons_zero, List.getD_cons_succ, List.getD_cons_zero])
              | (refine x_mv rfl rfl rfl ?_; simp only [Act.put, ev_tmp, List.setIfInBounds_toArray, List.set_cons_succ, List.set_cons_zero, List.getD_cons_succ, List.getD_cons_zero])
              | (refine x_as rfl rfl rfl ?_; simp only [Act.put, ev_tmp, List.setIfInBounds_toArray, List.set_cons_succ, List.set_cons_zero, List.getD_cons_succ, List.getD_cons_zero])
              | ((with_reducible show wpX _ _ _ _ _ _ (Oper.mk _ (Op.indexAddr _ _ _) _ _ _ _ :: Oper.mk _ (Op.fieldAddr _ _ _) _ _ _ _ :: Oper.mk _ (Op.load _ _) _ _ _ _ :: _) _); refine x_ldField (f := 0) (off := 0) (j := 0) rfl rfl (fun _ => rfl) rfl (fun _ _ => rfl) rfl (fun _ => rfl) (fun _ _ => rfl) fo_implRequest_0 rfl rfl rfl hpD l3 l5.out (by omega) hs1 hci rfl ?_; simp only [Act.put, ev_tmp, List.setIfInBounds_toArray, List.set_cons_succ, List.set_cons_zero, List.getD_cons_succ, List.getD_cons_zero])
              | ((with_reducible show wpX _ _ _ _ _ _ (Oper.mk _ (Op.call _) _ _ _ _ :: _) _); refine x_callf (f := 115) (args := #[.int .i64 tA, .int .i64 0, .int .i64 100000]) rfl rfl Try.func115 rfl (by kernel_rfl) ?_ ?_ ?_; (focus (simp [Act.eval]; done)); (focus (intro w1 hw1; exact (by rw [HF.out]; exact calls_same (by have h := BA.out w1; rw [HIN.out] at h; exact h)))); rintro u w3 e3 e4 hu; simp only [HF.out] at hu; subst hu; simp only [Act.put, ev_tmp, List.setIfInBounds_toArray, List.set_cons_succ, List.set_cons_zero, List.getD_cons_succ, List.getD_cons_zero])
              | ((with_reducible show wpX _ _ _ _ _ _ (Oper.mk _ (Op.indexAddr _ _ _) _ _ _ _ :: Oper.mk _ (Op.fieldAddr _ _ _) _ _ _ _ :: Oper.mk _ (Op.load _ _) _ _ _ _ :: _) _); refine x_ldField (f := 1) (off := 1) (j := 0) rfl rfl (fun _ => rfl) rfl (fun _ _ => rfl) rfl (fun _ => rfl) (fun _ _ => rfl) fo_implRequest_1 rfl rfl rfl hpD l3 l5.out (by omega) hs1 hci rfl ?_; simp only [Act.put, ev_tmp, List.setIfInBounds_toArray, List.set_cons_succ, List.set_cons_zero, List.getD_cons_succ, List.getD_cons_zero])
              | ((with_reducible show wpX _ _ _ _ _ _ (Oper.mk _ (Op.call _) _ _ _ _ :: _) _); refine x_callf (f := 80) (args := #[.pointer (some ⟨w.heap.size, 0, none⟩)]) rfl rfl Try.func80 rfl (by kernel_rfl) ?_ ?_ ?_; (focus (simp [Act.eval]; done)); (focus (intro w1 hw1; exact (by rw [HF.out]; exact (AI.out w1 (hWD.trans hw1)).mono fun e w3 h => ⟨_, h.1, h.2, rfl⟩))); rintro u w3 e3 e4 hu; simp only [HF.out] at hu; subst hu; simp only [Act.put, ev_tmp, List.setIfInBounds_toArray, List.set_cons_succ, List.set_cons_zero, List.getD_cons_succ, List.getD_cons_zero])
              | (refine x_run rfl fun K hK w1 hw1 => ?_; go_simp; refine hK _ ?_; clear hK K  hw1 w1))
            refine x_nil ?_
            go_wp2
            go_roundw
            case rel => exact ⟨1, by omega, by go_num, Hst.out, hWD.trans hwf⟩
            case measure => simp [intOf]; omega
          · have hG := hid (show false = G by rw [← hst]; simp [hm2])
            have hE := bne_t hm2
            clear hst ho hm2
            go_wp2_with fail
            have hD := Ext.drew wr
            have hpD := hp.ext hD
            have hWD := he.trans hD
            obtain ⟨F, hF⟩ : ∃ F : Option Tmp → World → Value → Prop, F = fun d _ u => match d with | some 52 => u = .bool true | _ => u = .int .i64 I := ⟨_, rfl⟩
            have HF := hid hF
            clear hF
            refine wp_region_xall (F := F) (by kernel_rfl) (by kernel_rfl) (by kernel_rfl) ?_
            intro wf hwf
            repeat (first
              | (refine x_skip rfl ?_; simp only [Act.put, ev_tmp, List.setIfInBounds_toArray, List.set_cons_succ, List.set_cons_zero, List.getD_cons_succ, List.getD_cons_zero])
              | (refine x_mv rfl rfl rfl ?_; simp only [Act.put, ev_tmp, List.setIfInBounds_toArray, List.set_cons_succ, List.set_cons_zero, List.getD_cons_succ, List.getD_cons_zero])
              | (refine x_as rfl rfl rfl ?_; simp only [Act.put, ev_tmp, List.setIfInBounds_toArray, List.set_cons_succ, List.set_cons_zero, List.getD_cons_succ, List.getD_cons_zero])
              | ((with_reducible show wpX _ _ _ _ _ _ (Oper.mk _ (Op.indexAddr _ _ _) _ _ _ _ :: Oper.mk _ (Op.fieldAddr _ _ _) _ _ _ _ :: Oper.mk _ (Op.load _ _) _ _ _ _ :: _) _); refine x_ldField (f := 0) (off := 0) (j := 0) rfl rfl (fun _ => rfl) rfl (fun _ _ => rfl) rfl (fun _ => rfl) (fun _ _ => rfl) fo_implRequest_0 rfl rfl rfl hpD l3 l5.out (by omega) hs1 hci rfl ?_; simp only [Act.put, ev_tmp, List.setIfInBounds_toArray, List.set_cons_succ, List.set_cons_zero, List.getD_cons_succ, List.getD_cons_zero])
              | ((with_reducible show wpX _ _ _ _ _ _ (Oper.mk _ (Op.call _) _ _ _ _ :: _) _); refine x_callf (f := 115) (args := #[.int .i64 tA, .int .i64 0, .int .i64 100000]) rfl rfl Try.func115 rfl (by kernel_rfl) ?_ ?_ ?_; (focus (simp [Act.eval]; done)); (focus (intro w1 hw1; exact (by rw [HF.out]; exact calls_same (by have h := BA.out w1; rw [HIN.out] at h; exact h)))); rintro u w3 e3 e4 hu; simp only [HF.out] at hu; subst hu; simp only [Act.put, ev_tmp, List.setIfInBounds_toArray, List.set_cons_succ, List.set_cons_zero, List.getD_cons_succ, List.getD_cons_zero])
              | ((with_reducible show wpX _ _ _ _ _ _ (Oper.mk _ (Op.indexAddr _ _ _) _ _ _ _ :: Oper.mk _ (Op.fieldAddr _ _ _) _ _ _ _ :: Oper.mk _ (Op.load _ _) _ _ _ _ :: _) _); refine x_ldField (f := 1) (off := 1) (j := 0) rfl rfl (fun _ => rfl) rfl (fun _ _ => rfl) rfl (fun _ => rfl) (fun _ _ => rfl) fo_implRequest_1 rfl rfl rfl hpD l3 l5.out (by omega) hs1 hci rfl ?_; simp only [Act.put, ev_tmp, List.setIfInBounds_toArray, List.set_cons_succ, List.set_cons_zero, List.getD_cons_succ, List.getD_cons_zero])
              | ((with_reducible show wpX _ _ _ _ _ _ (Oper.mk _ (Op.call _) _ _ _ _ :: _) _); refine x_callf (f := 80) (args := #[.pointer (some ⟨w.heap.size, 0, none⟩)]) rfl rfl Try.func80 rfl (by kernel_rfl) ?_ ?_ ?_; (focus (simp [Act.eval]; done)); (focus (intro w1 hw1; exact (by rw [HF.out]; exact (AI.out w1 (hWD.trans hw1)).mono fun e w3 h => ⟨_, h.1, h.2, rfl⟩))); rintro u w3 e3 e4 hu; simp only [HF.out] at hu; subst hu; simp only [Act.put, ev_tmp, List.setIfInBounds_toArray, List.set_cons_succ, List.set_cons_zero, List.getD_cons_succ, List.getD_cons_zero])
              | (refine x_run rfl fun K hK w1 hw1 => ?_; go_simp; refine hK _ ?_; clear hK K  hw1 w1))
            refine x_nil ?_
            go_wp2
            go_ret2
            rw [hno.out (.inl (by rw [hreq2.out]; exact hG.out.symm))]
            exact outOk_no rfl ((E0.trans hWD).trans hwf)
        · obtain ⟨j, rfl⟩ : ∃ j, i = j + 1 := ⟨i - 1, by omega⟩
          obtain ⟨cj, hcj, rj⟩ := l2.get j D1[j] (by simp)
          obtain ⟨pj, cj', rfl, _, _⟩ := req_cells rj
          have ho : ordB (prevA D1 (j + 1)) tA = !decide (tA < D1[j].1) := by simp [prevA, ordB, show j < D1.length by omega]
          rw [ho] at hst
          have hA : IntKind.i64.wrap (((j + 1 : Nat) : Int) - 1) = (j : Int) := by rw [show ((j + 1 : Nat) : Int) - 1 = (j : Int) by omega]; exact wrap_in _ (by omega) (by omega)
          have hB : IntKind.i64.wrap ((j : Int) + 1 - 1) = (j : Int) := by rw [show (j : Int) + 1 - 1 = (j : Int) by omega]; exact wrap_in _ (by omega) (by omega)
          have hC : IntKind.i64.wrap (j : Int) = (j : Int) := wrap_in _ (by omega) (by omega)
          clear rj ho
          generalize D1[j].1 = tB at *
          by_cases hlt2 : tA < tB
          · have hG := hid (show false = G by rw [← hst]; simp [hlt2])
            have hT := decide_eq_true hlt2
            clear hst
            go_wp2_with fail
            have hD := Ext.drew wr
            have hpD := hp.ext hD
            have hWD := he.trans hD
            obtain ⟨F, hF⟩ : ∃ F : Option Tmp → World → Value → Prop, F = fun d _ u => match d with | some 52 => u = .bool true | _ => u = .int .i64 I := ⟨_, rfl⟩
            have HF := hid hF
            clear hF
            refine wp_region_xall (F := F) (by kernel_rfl) (by kernel_rfl) (by kernel_rfl) ?_
            intro wf hwf
            repeat (first
              | (refine x_skip rfl ?_; simp only [Act.put, ev_tmp, List.setIfInBounds_toArray, List.set_cons_succ, List.set_cons_zero, List.getD_cons_succ, List.getD_cons_zero])
              | (refine x_mv rfl rfl rfl ?_; simp only [Act.put, ev_tmp, List.setIfInBounds_toArray, List.set_cons_succ, List.set_cons_zero, List.getD_cons_succ, List.getD_cons_zero])
              | (refine x_as rfl rfl rfl ?_; simp only [Act.put, ev_tmp, List.setIfInBounds_toArray, List.set_cons_succ, List.set_cons_zero, List.getD_cons_succ, List.getD_cons_zero])
              | ((with_reducible show wpX _ _ _ _ _ _ (Oper.mk _ (Op.indexAddr _ _ _) _ _ _ _ :: Oper.mk _ (Op.fieldAddr _ _ _) _ _ _ _ :: Oper.mk _ (Op.load _ _) _ _ _ _ :: _) _); refine x_ldField (f := 0) (off := 0) (j := (j + 1)) rfl rfl (fun _ => rfl) rfl (fun _ _ => rfl) rfl (fun _ => rfl) (fun _ _ => rfl) fo_implRequest_0 rfl rfl rfl hpD l3 l5.out (by omega) hs1 hci rfl ?_; simp only [Act.put, ev_tmp, List.setIfInBounds_toArray, List.set_cons_succ, List.set_cons_zero, List.getD_cons_succ, List.getD_cons_zero])
              | ((with_reducible show wpX _ _ _ _ _ _ (Oper.mk _ (Op.call _) _ _ _ _ :: _) _); refine x_callf (f := 115) (args := #[.int .i64 tA, .int .i64 0, .int .i64 100000]) rfl rfl Try.func115 rfl (by kernel_rfl) ?_ ?_ ?_; (focus (simp [Act.eval]; done)); (focus (intro w1 hw1; exact (by rw [HF.out]; exact calls_same (by have h := BA.out w1; rw [HIN.out] at h; exact h)))); rintro u w3 e3 e4 hu; simp only [HF.out] at hu; subst hu; simp only [Act.put, ev_tmp, List.setIfInBounds_toArray, List.set_cons_succ, List.set_cons_zero, List.getD_cons_succ, List.getD_cons_zero])
              | ((with_reducible show wpX _ _ _ _ _ _ (Oper.mk _ (Op.indexAddr _ _ _) _ _ _ _ :: Oper.mk _ (Op.fieldAddr _ _ _) _ _ _ _ :: Oper.mk _ (Op.load _ _) _ _ _ _ :: _) _); refine x_ldField (f := 0) (off := 0) (j := j) rfl rfl (fun _ => rfl) rfl (fun _ _ => rfl) rfl (fun _ => rfl) (fun _ _ => rfl) fo_implRequest_0 rfl rfl (by first | exact hA | exact hB | exact hC | omega) hpD l3 l5.out (by omega) hs1 hcj rfl ?_; simp only [Act.put, ev_tmp, List.setIfInBounds_toArray, List.set_cons_succ, List.set_cons_zero, List.getD_cons_succ, List.getD_cons_zero])
              | (refine x_run rfl fun K hK w1 hw1 => ?_; go_simp; refine hK _ ?_; clear hK K  hw1 w1))
            refine x_nil ?_
            go_wp2
            go_ret2
            rw [hno.out (.inl (by rw [hreq2.out]; exact hG.out.symm))]
            exact outOk_no rfl ((E0.trans hWD).trans hwf)
          · have hT := decide_eq_false hlt2
            rw [hT, Bool.not_false, Bool.true_and] at hst
            by_cases hm2 : (m : Int) = I
            · have Hst := hid (show reqGo I (prevA D1 (j + 1 + 1)) (D1.drop (j + 1 + 1)) = G by rw [← hst]; simp [hm2])
              have hE := bne_f hm2
              clear hst hm2 hlt2
              go_wp2_with fail
              have hD := Ext.drew wr
              have hpD := hp.ext hD
              have hWD := he.trans hD
              obtain ⟨F, hF⟩ : ∃ F : Option Tmp → World → Value → Prop, F = fun d _ u => match d with | some 52 => u = .bool true | _ => u = .int .i64 I := ⟨_, rfl⟩
              have HF := hid hF
              clear hF
              refine wp_region_xall (F := F) (by kernel_rfl) (by kernel_rfl) (by kernel_rfl) ?_
              intro wf hwf
              repeat (first
                | (refine x_skip rfl ?_; simp only [Act.put, ev_tmp, List.setIfInBounds_toArray, List.set_cons_succ, List.set_cons_zero, List.getD_cons_succ, List.getD_cons_zero])
                | (refine x_mv rfl rfl rfl ?_; simp only [Act.put, ev_tmp, List.setIfInBounds_toArray, List.set_cons_succ, List.set_cons_zero, List.getD_cons_succ, List.getD_cons_zero])
                | (refine x_as rfl rfl rfl ?_; simp only [Act.put, ev_tmp, List.setIfInBounds_toArray, List.set_cons_succ, List.set_cons_zero, List.getD_cons_succ, List.getD_cons_zero])
                | ((with_reducible show wpX _ _ _ _ _ _ (Oper.mk _ (Op.indexAddr _ _ _) _ _ _ _ :: Oper.mk _ (Op.fieldAddr _ _ _) _ _ _ _ :: Oper.mk _ (Op.load _ _) _ _ _ _ :: _) _); refine x_ldField (f := 0) (off := 0) (j := (j + 1)) rfl rfl (fun _ => rfl) rfl (fun _ _ => rfl) rfl (fun _ => rfl) (fun _ _ => rfl) fo_implRequest_0 rfl rfl rfl hpD l3 l5.out (by omega) hs1 hci rfl ?_; simp only [Act.put, ev_tmp, List.setIfInBounds_toArray, List.set_cons_succ, List.set_cons_zero, List.getD_cons_succ, List.getD_cons_zero])
                | ((with_reducible show wpX _ _ _ _ _ _ (Oper.mk _ (Op.call _) _ _ _ _ :: _) _); refine x_callf (f := 115) (args := #[.int .i64 tA, .int .i64 0, .int .i64 100000]) rfl rfl Try.func115 rfl (by kernel_rfl) ?_ ?_ ?_; (focus (simp [Act.eval]; done)); (focus (intro w1 hw1; exact (by rw [HF.out]; exact calls_same (by have h := BA.out w1; rw [HIN.out] at h; exact h)))); rintro u w3 e3 e4 hu; simp only [HF.out] at hu; subst hu; simp only [Act.put, ev_tmp, List.setIfInBounds_toArray, List.set_cons_succ, List.set_cons_zero, List.getD_cons_succ, List.getD_cons_zero])
                | ((with_reducible show wpX _ _ _ _ _ _ (Oper.mk _ (Op.indexAddr _ _ _) _ _ _ _ :: Oper.mk _ (Op.fieldAddr _ _ _) _ _ _ _ :: Oper.mk _ (Op.load _ _) _ _ _ _ :: _) _); refine x_ldField (f := 0) (off := 0) (j := j) rfl rfl (fun _ => rfl) rfl (fun _ _ => rfl) rfl (fun _ => rfl) (fun _ _ => rfl) fo_implRequest_0 rfl rfl (by first | exact hA | exact hB | exact hC | omega) hpD l3 l5.out (by omega) hs1 hcj rfl ?_; simp only [Act.put, ev_tmp, List.setIfInBounds_toArray, List.set_cons_succ, List.set_cons_zero, List.getD_cons_succ, List.getD_cons_zero])
                | ((with_reducible show wpX _ _ _ _ _ _ (Oper.mk _ (Op.indexAddr _ _ _) _ _ _ _ :: Oper.mk _ (Op.fieldAddr _ _ _) _ _ _ _ :: Oper.mk _ (Op.load _ _) _ _ _ _ :: _) _); refine x_ldField (f := 1) (off := 1) (j := (j + 1)) rfl rfl (fun _ => rfl) rfl (fun _ _ => rfl) rfl (fun _ => rfl) (fun _ _ => rfl) fo_implRequest_1 rfl rfl rfl hpD l3 l5.out (by omega) hs1 hci rfl ?_; simp only [Act.put, ev_tmp, List.setIfInBounds_toArray, List.set_cons_succ, List.set_cons_zero, List.getD_cons_succ, List.getD_cons_zero])
                | ((with_reducible show wpX _ _ _ _ _ _ (Oper.mk _ (Op.call _) _ _ _ _ :: _) _); refine x_callf (f := 80) (args := #[.pointer (some ⟨w.heap.size, 0, none⟩)]) rfl rfl Try.func80 rfl (by kernel_rfl) ?_ ?_ ?_; (focus (simp [Act.eval]; done)); (focus (intro w1 hw1; exact (by rw [HF.out]; exact (AI.out w1 (hWD.trans hw1)).mono fun e w3 h => ⟨_, h.1, h.2, rfl⟩))); rintro u w3 e3 e4 hu; simp only [HF.out] at hu; subst hu; simp only [Act.put, ev_tmp, List.setIfInBounds_toArray, List.set_cons_succ, List.set_cons_zero, List.getD_cons_succ, List.getD_cons_zero])
                | (refine x_run rfl fun K hK w1 hw1 => ?_; go_simp; refine hK _ ?_; clear hK K  hw1 w1))
              refine x_nil ?_
              go_wp2
              go_roundw
              case rel => exact ⟨j + 1 + 1, by omega, by go_num, Hst.out, hWD.trans hwf⟩
              case measure => simp [intOf]; omega
            · have hG := hid (show false = G by rw [← hst]; simp [hm2])
              have hE := bne_t hm2
              clear hst hm2 hlt2
              go_wp2_with fail
              have hD := Ext.drew wr
              have hpD := hp.ext hD
              have hWD := he.trans hD
              obtain ⟨F, hF⟩ : ∃ F : Option Tmp → World → Value → Prop, F = fun d _ u => match d with | some 52 => u = .bool true | _ => u = .int .i64 I := ⟨_, rfl⟩
              have HF := hid hF
              clear hF
              refine wp_region_xall (F := F) (by kernel_rfl) (by kernel_rfl) (by kernel_rfl) ?_
              intro wf hwf
              repeat (first
                | (refine x_skip rfl ?_; simp only [Act.put, ev_tmp, List.setIfInBounds_toArray, List.set_cons_succ, List.set_cons_zero, List.getD_cons_succ, List.getD_cons_zero])
                | (refine x_mv rfl rfl rfl ?_; simp only [Act.put, ev_tmp, List.setIfInBounds_toArray, List.set_cons_succ, List.set_cons_zero, List.getD_cons_succ, List.getD_cons_zero])
                | (refine x_as rfl rfl rfl ?_; simp only [Act.put, ev_tmp, List.setIfInBounds_toArray, List.set_cons_succ, List.set_cons_zero, List.getD_cons_succ, List.getD_cons_zero])
                | ((with_reducible show wpX _ _ _ _ _ _ (Oper.mk _ (Op.indexAddr _ _ _) _ _ _ _ :: Oper.mk _ (Op.fieldAddr _ _ _) _ _ _ _ :: Oper.mk _ (Op.load _ _) _ _ _ _ :: _) _); refine x_ldField (f := 0) (off := 0) (j := (j + 1)) rfl rfl (fun _ => rfl) rfl (fun _ _ => rfl) rfl (fun _ => rfl) (fun _ _ => rfl) fo_implRequest_0 rfl rfl rfl hpD l3 l5.out (by omega) hs1 hci rfl ?_; simp only [Act.put, ev_tmp, List.setIfInBounds_toArray, List.set_cons_succ, List.set_cons_zero, List.getD_cons_succ, List.getD_cons_zero])
                | ((with_reducible show wpX _ _ _ _ _ _ (Oper.mk _ (Op.call _) _ _ _ _ :: _) _); refine x_callf (f := 115) (args := #[.int .i64 tA, .int .i64 0, .int .i64 100000]) rfl rfl Try.func115 rfl (by kernel_rfl) ?_ ?_ ?_; (focus (simp [Act.eval]; done)); (focus (intro w1 hw1; exact (by rw [HF.out]; exact calls_same (by have h := BA.out w1; rw [HIN.out] at h; exact h)))); rintro u w3 e3 e4 hu; simp only [HF.out] at hu; subst hu; simp only [Act.put, ev_tmp, List.setIfInBounds_toArray, List.set_cons_succ, List.set_cons_zero, List.getD_cons_succ, List.getD_cons_zero])
                | ((with_reducible show wpX _ _ _ _ _ _ (Oper.mk _ (Op.indexAddr _ _ _) _ _ _ _ :: Oper.mk _ (Op.fieldAddr _ _ _) _ _ _ _ :: Oper.mk _ (Op.load _ _) _ _ _ _ :: _) _); refine x_ldField (f := 0) (off := 0) (j := j) rfl rfl (fun _ => rfl) rfl (fun _ _ => rfl) rfl (fun _ => rfl) (fun _ _ => rfl) fo_implRequest_0 rfl rfl (by first | exact hA | exact hB | exact hC | omega) hpD l3 l5.out (by omega) hs1 hcj rfl ?_; simp only [Act.put, ev_tmp, List.setIfInBounds_toArray, List.set_cons_succ, List.set_cons_zero, List.getD_cons_succ, List.getD_cons_zero])
                | ((with_reducible show wpX _ _ _ _ _ _ (Oper.mk _ (Op.indexAddr _ _ _) _ _ _ _ :: Oper.mk _ (Op.fieldAddr _ _ _) _ _ _ _ :: Oper.mk _ (Op.load _ _) _ _ _ _ :: _) _); refine x_ldField (f := 1) (off := 1) (j := (j + 1)) rfl rfl (fun _ => rfl) rfl (fun _ _ => rfl) rfl (fun _ => rfl) (fun _ _ => rfl) fo_implRequest_1 rfl rfl rfl hpD l3 l5.out (by omega) hs1 hci rfl ?_; simp only [Act.put, ev_tmp, List.setIfInBounds_toArray, List.set_cons_succ, List.set_cons_zero, List.getD_cons_succ, List.getD_cons_zero])
                | ((with_reducible show wpX _ _ _ _ _ _ (Oper.mk _ (Op.call _) _ _ _ _ :: _) _); refine x_callf (f := 80) (args := #[.pointer (some ⟨w.heap.size, 0, none⟩)]) rfl rfl Try.func80 rfl (by kernel_rfl) ?_ ?_ ?_; (focus (simp [Act.eval]; done)); (focus (intro w1 hw1; exact (by rw [HF.out]; exact (AI.out w1 (hWD.trans hw1)).mono fun e w3 h => ⟨_, h.1, h.2, rfl⟩))); rintro u w3 e3 e4 hu; simp only [HF.out] at hu; subst hu; simp only [Act.put, ev_tmp, List.setIfInBounds_toArray, List.set_cons_succ, List.set_cons_zero, List.getD_cons_succ, List.getD_cons_zero])
                | (refine x_run rfl fun K hK w1 hw1 => ?_; go_simp; refine hK _ ?_; clear hK K  hw1 w1))
              refine x_nil ?_
              go_wp2
              go_ret2
              rw [hno.out (.inl (by rw [hreq2.out]; exact hG.out.symm))]
              exact outOk_no rfl ((E0.trans hWD).trans hwf)
    · have hiq : i = nq := by omega
      have hst := HI.out
      rw [List.drop_of_length_le (by rw [HN.out]; omega)] at hst
      have hst2 : G = true := by rw [← hst]; rfl
      have hok := hyes.out (by rw [hreq2.out, hst2])
      obtain ⟨Z, rfl, _, hRq, hS, _⟩ := okD_of hok
      have hres : res (L0, u0) D1 Z wt wk = (ansL (outF L0 D1) (sv (atR D1) (List.length D1) Z wt wk) wk (List.length D1), true) := by
        unfold res; rw [if_pos hok]; rfl
      rw [HN.out] at hres
      have hres := hid hres
      clear hok hst hst2 HI hno hyes hreq2 A AI B1 B2 B3

      have HSv := hid hS
      replace hRq : ReqOk I D1 := by have h := hRq; dsimp only at h; rw [HI0.out] at h; exact h
      have hz1 := hS.z1
      have hz16 := hS.z16
      have hwt := hS.wt0
      have hwk := hS.wk1
      have Hlo := hid hS.lo
      have hF := hid (fun j => show curF L0 (rowR D1 j) L0.length = outF L0 D1 j from rfl)
      rw [HN.out] at Hlo HSv hS
      have Hbg := hid (fun i (hi : i < nq) free F h0 h1 h2 => beg_bd hS hi (free := free) (F := F) h0 h1 h2)
      have Hend := hid (fun i k b free hi h0 hs hk hl hstop => sv_end hS (i := i) (k := k) (b := b) (free := free) hi h0 hs hk hl hstop)
      have St3 := hid (fun W h j hj q5 m5 c5 hX => St.out W h j hj hRq q5 m5 c5 hX)
      have hwl := hid (fun j (hj : j < D1.length) => hRq.len j hj)
      have hlen := Hlen
      clear St hRq hS hMm HI0
      rw [Hlen.out] at hF
      have hres2 := hres.out
      generalize outF L0 D1 = f at *
      replace hres := hid hres2
      clear hres2
      subst hiq
      obtain ⟨w1, rfl⟩ : ∃ w1, w1 = wr := ⟨_, rfl⟩
      have e1 := he
      have hst : (w1.alloc (.cells #[] 167)).ownsRow w1.heap.size 167 (Sh.sz shAnswer) (.slice (some ⟨w1.heap.size, 0, none⟩) 0 0) 0 [] := World.ownsRow_made w1 #[] 0 (Nat.le_refl _) (by decide) rfl
      have e2 := he.trans (Ext.alloc w1 (.cells #[] 167))
      generalize hnn : i = n at *
      clear hnn
      clear he
      go_wp2_with fail
      generalize hW2 : w1.alloc (.cells #[] 167) = W2 at *
      go_loopw [13, 14, 15, 16] (fun ov fv bv iv wr => ∃ (i b : Nat) (free : Int) (q6 : Option Addr) (c6 : Nat) (cs : List (List Value)) (bss : List (List Nat)), i ≤ n ∧ ov = .slice q6 i c6 ∧ fv = .int .i64 free ∧ bv = .int .i64 b ∧ iv = .int .i64 i ∧ (i < n → Hid (sv (atR D1) n Z wt wk i = (i, b, beg (atR D1) n Z wt free i))) ∧ 0 ≤ free ∧ free ≤ 200000 + 100000 * i ∧ b ≤ i ∧ GrowOwn wr w1.heap.size 167 shAnswer (.slice q6 i c6) (ansL f (sv (atR D1) n Z wt wk) wk i) cs bss ∧ Ext W0 wr ∧ w1.heap.size ≤ wr.heap.size) (fun _ _ _ iv _ => n - (intOf iv).toNat)
      case atStart => exact ⟨0, 0, 0, _, _, [], [], by omega, rfl, rfl, rfl, rfl, fun _ => rfl, by omega, by omega, by omega, GrowOwn.empty hst, e2, by rw [← hW2]; simp⟩
      case round =>
        clear hst e2 hW2
        obtain ⟨i, b, free, q6, c6, cs, bss, hi, rfl, rfl, rfl, rfl, HS, hf0, hf1, hbi, hg, he, hsz⟩ := hrel
        by_cases hlt : i < n
        · have hiD : i < List.length D1 := by rw [HN.out]; exact hlt
          have hp := l1.ext (E0.trans he)
          have hsr : q.isSome = true := l1.some_of l3 (by decide) (show 0 < csq.length by rw [l5.out]; omega)
          obtain ⟨ci, hci, ri⟩ := l2.get i D1[i] (by simp)
          obtain ⟨pr, cr, rfl, _, _⟩ := req_cells ri
          rw [show D1[i].1 = atR D1 i from (atR_eq hiD).symm] at hci
          have hai := Hlo.out i hlt
          obtain ⟨hb0, hb1, hb2⟩ := Hbg.out i hlt free (200000 + 100000 * i) hf0 hf1 (by omega)
          obtain ⟨B, hB⟩ : ∃ B, B = beg (atR D1) n Z wt free i := ⟨_, rfl⟩
          have hBB := hid hB
          rw [← hB] at hb0 hb1 hb2
          have HS2 := HS hlt
          have q1 : IntKind.i64.wrap (atR D1 i + wt) = atR D1 i + wt := wrap_in _ (by omega) (by omega)
          have qB : IntKind.i64.wrap (B + wk) = B + wk := wrap_in _ (by omega) (by omega)
          have q2 : IntKind.i64.wrap ((i : Int) + (Z : Int)) = (i : Int) + (Z : Int) := wrap_in _ (by omega) (by omega)
          have M1 := hid (fun W => l00Max_any free (atR D1 i + wt) W)
          generalize hAi : atR D1 i = ai at *
          have HAi := hid hAi
          clear ri HS hB hAi
          by_cases hz : i + Z ≤ n
          case' pos =>
            have hizD : i + Z - 1 < List.length D1 := by rw [HN.out]; omega
            obtain ⟨cz, hcz, rz⟩ := l2.get (i + Z - 1) D1[i + Z - 1] (by simp)
            obtain ⟨pz, cz', rfl, _, _⟩ := req_cells rz
            rw [show D1[i + Z - 1].1 = atR D1 (i + Z - 1) from (atR_eq hizD).symm] at hcz
            have hbe : min (max free (ai + wt)) (max free (atR D1 (i + Z - 1))) = B := by rw [hBB.out, ← HAi.out]; unfold beg; rw [if_pos hz]; omega
            generalize atR D1 (i + Z - 1) = az at *
            have M2 := hid (fun W => l00Max_any free az W)
            have M3 := hid (fun W => l00MinI_any (max free (ai + wt)) (max free az) W)
            rw [hbe] at M3
            have hd1 : decide ((i : Int) + (Z : Int) ≤ (n : Int)) = true := by simp; omega
            have qz : IntKind.i64.wrap ((i : Int) + (Z : Int) - 1) = ((i + Z - 1 : Nat) : Int) := by rw [show (i : Int) + (Z : Int) - 1 = ((i + Z - 1 : Nat) : Int) by omega]; exact wrap_in _ (by omega) (by omega)
            have hZr : i + Z - 1 < n := by omega
            generalize hJz : i + Z - 1 = jz at *
            clear rz hz hJz hbe
            go_wp2_with (first | ((with_reducible show wpList _ _ _ (Oper.mk _ (Op.indexAddr _ _ _) _ _ _ _ :: Oper.mk _ (Op.fieldAddr _ _ _) _ _ _ _ :: _) _ _); refine wl_ldField (f := 0) (off := 0) (j := i) rfl rfl rfl rfl rfl rfl (fun _ => rfl) (fun _ _ => rfl) fo_implRequest_0 rfl rfl (by first | rfl | omega) hp l3 l5.out hlt hsr hci rfl ?_) | ((with_reducible show wpList _ _ _ (Oper.mk _ (Op.indexAddr _ _ _) _ _ _ _ :: Oper.mk _ (Op.fieldAddr _ _ _) _ _ _ _ :: _) _ _); refine wl_ldField (f := 0) (off := 0) (j := jz) rfl rfl rfl rfl rfl rfl (fun _ => rfl) (fun _ _ => rfl) fo_implRequest_0 rfl rfl (by first | exact qz | omega) hp l3 l5.out hZr hsr hcz rfl ?_) | (go_at_call 116; (first | with_reducible refine (M1.out _).mono ?_ | with_reducible refine (M2.out _).mono ?_); rintro e w2 ⟨rfl, rfl⟩) | (go_at_call 117; with_reducible refine (M3.out _).mono ?_; rintro e w2 ⟨rfl, rfl⟩))
          case' neg =>
            have hbe : max free (ai + wt) = B := by rw [hBB.out, ← HAi.out]; unfold beg; rw [if_neg hz]
            rw [hbe] at M1
            have hd1 : decide ((i : Int) + (Z : Int) ≤ (n : Int)) = false := by simp; omega
            clear hz hbe
            go_wp2_with (first | ((with_reducible show wpList _ _ _ (Oper.mk _ (Op.indexAddr _ _ _) _ _ _ _ :: Oper.mk _ (Op.fieldAddr _ _ _) _ _ _ _ :: _) _ _); refine wl_ldField (f := 0) (off := 0) (j := i) rfl rfl rfl rfl rfl rfl (fun _ => rfl) (fun _ _ => rfl) fo_implRequest_0 rfl rfl (by first | rfl | omega) hp l3 l5.out hlt hsr hci rfl ?_) | (go_at_call 116; with_reducible refine (M1.out _).mono ?_; rintro e w2 ⟨rfl, rfl⟩))
          all_goals
            go_loopw [13, 16] (fun ov jv wq => ∃ (k J : Nat) (q7 : Option Addr) (c7 : Nat) (cs7 : List (List Value)) (bss7 : List (List Nat)), Hid (i + k = J) ∧ J ≤ n ∧ k ≤ Z ∧ jv = .int .i64 J ∧ ov = .slice q7 J c7 ∧ (1 ≤ k → Hid (sv (atR D1) n Z wt wk (i + k - 1) = (i, b, beg (atR D1) n Z wt free i))) ∧ GrowOwn wq w1.heap.size 167 shAnswer (.slice q7 J c7) (ansL f (sv (atR D1) n Z wt wk) wk J) cs7 bss7 ∧ Ext W0 wq ∧ wr.heap.size ≤ wq.heap.size) (fun _ jv _ => n - (intOf jv).toNat)
            case atStart => exact ⟨0, i, q6, c6, cs, bss, rfl, by omega, by omega, rfl, rfl, fun h => by omega, hg, he, Nat.le_refl _⟩
            case round =>
              clear hg he
              obtain ⟨k, J, q7, c7, cs7, bss7, HJ, hJ, hkz, rfl, rfl, HL, hg7, he7, hsz7⟩ := hrel
              have qk : IntKind.i64.wrap ((J : Int) - (i : Int)) = (k : Int) := by have := HJ.out; rw [show (J : Int) - (i : Int) = (k : Int) by omega]; exact wrap_in _ (by omega) (by omega)
              by_cases hkr : J < n
              · have hJD : J < List.length D1 := by rw [HN.out]; omega
                obtain ⟨ck0, hck, rk⟩ := l2.get J D1[J] (by simp)
                obtain ⟨pk, ck, rfl, rrk, hmk⟩ := req_cells rk
                have ea : D1[J].1 = atR D1 J := (atR_eq hJD).symm
                have er : D1[J].2.1 = rowR D1 J := (rowR_eq hJD).symm
                rw [ea, er] at hck
                rw [er] at rrk hmk
                have St2 := hid (fun W (h : Ext wr W) => St3.out W (he7.trans h) J hkr pk _ ck (rrk.ext (E0.trans (he7.trans h))))
                generalize (rowR D1 J).length = m at *
                have hprk := l1.ext (E0.trans he7)
                clear rk rrk ea er hmk
                by_cases hkZ : k < Z
                · have hE := decide_eq_true (show (k : Int) < (Z : Int) by omega)
                  have HA0 := hid (show atR D1 J ≤ B → sv (atR D1) n Z wt wk J = (i, b, beg (atR D1) n Z wt free i) from fun hA => by have h := sv_go (k := k) HS2.out (fun h => (HL h).out) hkZ (by rw [HJ.out, ← hBB.out]; exact hA); rw [HJ.out] at h; exact h)
                  by_cases hA : atR D1 J ≤ B
                  · have hT := decide_eq_true hA
                    have HG := hid (HA0.out hA)
                    have qJ : IntKind.i64.wrap ((J : Int) + 1) = (J : Int) + 1 := wrap_in _ (by omega) (by omega)
                    have hrow7 := hg7.row
                    rw [ansL_len] at hrow7
                    clear HA0
                    go_wp2_with (first | ((with_reducible show wpList _ _ _ (Oper.mk _ (Op.indexAddr _ _ _) _ _ _ _ :: Oper.mk _ (Op.fieldAddr _ _ _) _ _ _ _ :: _) _ _); refine wl_ldFieldW (f := 0) (off := 0) (j := J) rfl rfl (fun _ => rfl) rfl (fun _ _ => rfl) rfl (fun _ => rfl) (fun _ _ => rfl) fo_implRequest_0 rfl rfl (by first | rfl | omega) hprk l3 l5.out hkr hsr hck rfl ?_) | ((with_reducible show wpList _ _ _ (Oper.mk _ (Op.indexAddr _ _ _) _ _ _ _ :: Oper.mk _ (Op.fieldAddr _ _ _) _ _ _ _ :: _) _ _); refine wl_ldField (f := 1) (off := 1) (j := J) rfl rfl rfl rfl rfl rfl (fun _ => rfl) (fun _ _ => rfl) fo_implRequest_1 rfl rfl (by first | rfl | omega) hprk l3 l5.out hkr hsr hck rfl ?_) | (go_at_call 98; refine (St2.out _ (Ext.refl _)).mono ?_; intro e w6 h6; rw [hF.out] at h6; obtain ⟨q8, c8, bs8, rfl, own8, nd8, lo8, e6⟩ := retFl_thing h6; clear h6; generalize hm8 : (f J).length = m8 at *; have len8 := hid hm8; clear hm8) | ((with_reducible show wpList _ _ _ (Oper.mk _ (Op.buildSlice _ _ _) _ _ _ _ :: Oper.mk _ (Op.call _) _ _ _ _ :: _) _ _); refine wl_app1b (u := .agg #[.int .i64 (B + wk), .int .i64 b, .slice q8 m8 c8]) rfl rfl rfl rfl rfl (by rfl) (by rfl) (fun _ => rfl) (fun _ => rfl) (own_ext hrow7 e6) (by unfold maxLen; omega) (by omega) (by have := hsz7; have := e6.size; omega) ?_; intro g9 c9 w9 own9 gr9 hw9))
                    go_roundw
                    case rel =>
                      have H9 := hg7.snoc e6 (own_ans (a := B + wk) (b := (b : Int)) len8.out own8) nd8 lo8 (by have := hsz7; omega) (ansL_len _ _ _ _) own9 gr9 hw9
                      have H10 : ansL f (sv (atR D1) n Z wt wk) wk (J + 1) = ansL f (sv (atR D1) n Z wt wk) wk J ++ [(B + wk, (b : Int), f J, ())] := by
                        rw [ansL_succ, HG.out, hBB.out]
                      rw [← H10] at H9
                      exact ⟨k + 1, J + 1, _, _, _, _, by have := HJ.out; show i + (k + 1) = J + 1; omega, by omega, by omega, by go_num, rfl, fun _ => by rw [show i + (k + 1) - 1 = J by have := HJ.out; omega]; exact HG, H9, (he7.trans e6).grown gr9 (fun kk hk9 => by have := own_le hrow7 kk hk9; have := e1.size; omega), by have := hsz7; have := e6.size; have := gr9.size; omega⟩
                    case measure => simp [intOf]; omega
                  · have hT := decide_eq_false hA
                    have HE := Hend.out i k b free hlt hf0 HS2.out (by have := HJ.out; omega) (fun h => (HL h).out) (.inr (.inr ⟨by have := HJ.out; omega, by rw [HJ.out, ← hBB.out]; omega⟩))
                    go_wp2_with (first | ((with_reducible show wpList _ _ _ (Oper.mk _ (Op.indexAddr _ _ _) _ _ _ _ :: Oper.mk _ (Op.fieldAddr _ _ _) _ _ _ _ :: _) _ _); refine wl_ldFieldW (f := 0) (off := 0) (j := J) rfl rfl (fun _ => rfl) rfl (fun _ _ => rfl) rfl (fun _ => rfl) (fun _ _ => rfl) fo_implRequest_0 rfl rfl (by first | rfl | omega) hprk l3 l5.out hkr hsr hck rfl ?_))
                    replace HE : 1 ≤ k ∧ _ := HE
                    rw [← hBB.out, HJ.out] at HE
                    go_roundw
                    case rel => exact ⟨J, b + 1, B + wk, q7, c7, cs7, bss7, by omega, rfl, rfl, by go_num, by go_num, fun h => HE.2 h, by omega, by have := HE.1; have := HJ.out; push_cast; omega, by have := HE.1; have := HJ.out; omega, hg7, he7, by omega⟩
                    case measure => have := HE.1; have := HJ.out; simp [intOf]; omega
                · have hE := decide_eq_false (show ¬ (k : Int) < (Z : Int) by omega)
                  have HE := Hend.out i k b free hlt hf0 HS2.out (by have := HJ.out; omega) (fun h => (HL h).out) (.inr (.inl (by omega)))
                  clear St2 hck hprk
                  go_wp2
                  replace HE : 1 ≤ k ∧ _ := HE
                  rw [← hBB.out, HJ.out] at HE
                  go_roundw
                  case rel => exact ⟨J, b + 1, B + wk, q7, c7, cs7, bss7, by omega, rfl, rfl, by go_num, by go_num, fun h => HE.2 h, by omega, by have := HE.1; have := HJ.out; push_cast; omega, by have := HE.1; have := HJ.out; omega, hg7, he7, by omega⟩
                  case measure => have := HE.1; have := HJ.out; simp [intOf]; omega
              · have HE := Hend.out i k b free hlt hf0 HS2.out (by have := HJ.out; omega) (fun h => (HL h).out) (.inl (by have := HJ.out; omega))
                have hE := decide_eq_false (show ¬ (J : Int) < (n : Int) by omega)
                go_wp2
                replace HE : 1 ≤ k ∧ _ := HE
                rw [← hBB.out, HJ.out] at HE
                go_roundw
                case rel => exact ⟨J, b + 1, B + wk, q7, c7, cs7, bss7, by omega, rfl, rfl, by go_num, by go_num, fun h => HE.2 h, by omega, by have := HE.1; have := HJ.out; push_cast; omega, by have := HE.1; have := HJ.out; omega, hg7, he7, by omega⟩
                case measure => have := HE.1; have := HJ.out; simp [intOf]; omega
        · obtain rfl : i = n := by omega
          go_wp2
          go_ret2
          obtain ⟨bs, ho, hnd, hlo⟩ := hg.own
          rw [hres.out]; exact ⟨[.slice q6 i c6], bs, rfl, ho, hnd, fun b hb => Nat.le_trans (E0.trans e1).size (hlo b hb), E0.trans he⟩

end Go.Proofs.Ytangnigplachdaa.lServeRequests
