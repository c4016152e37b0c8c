/- PlanRoom of the program and of the reference. -/
import Derived.Test.YtipojkfmbolehaaVPla
import Derived.Test.YtipojkfmbolehaaMax
namespace Go.Proofs.Ytipojkfmbolehaa.lPlanRoom
set_option linter.unusedSimpArgs false
set_option linter.unusedVariables false
open Go.RowKit

def roomGo : List shPlanStep.T → Int → Int
  | [], m => m
  | d :: l, m => roomGo l (max m (d.2.1 + d.2.2.1))
def res (D : shPlan.T) : Int × Bool := if plaB D.1 then (roomGo D.1 0, true) else (0, false)
def Got (w : World) (r : Int × Bool) (e : Ending) (w' : World) : Prop := e = .returned (.tuple #[.int .i64 r.1, .bool r.2]) ∧ Ext w w'
theorem res_yes {D : shPlan.T} (h : plaB D.1 = true) : res D = (roomGo D.1 0, true) := by unfold res; rw [if_pos h]
theorem res_no {D : shPlan.T} (h : plaB D.1 = false) : res D = (0, false) := by unfold res; rw [if_neg (by simp [h])]
/-- What a valid plan's steps are like. -/
theorem pla_bd : ∀ (l : List shPlanStep.T) (p : Option Int), plaGo p l = true → ∀ d ∈ l, stpD d = true
  | [], _, _, d, hd => by simp at hd
  | x :: l, p, h, d, hd => by
    simp only [plaGo, Bool.and_eq_true] at h
    rcases List.mem_cons.1 hd with rfl | hd
    · exact h.1
    · exact pla_bd l _ h.2.2 d hd
theorem stp_bd {d : shPlanStep.T} (h : stpD d = true) : inB d.2.1 1 8 = true ∧ inB d.2.2.1 1 8 = true := by
  unfold stpD stpB layB at h
  simp only [Bool.and_eq_true] at h
  exact ⟨h.1.2.1, h.1.2.2.1⟩

set_option maxRecDepth 100000 in
set_option maxHeartbeats 1000000 in
theorem spec_ok (cs0 : List Value) (D0 : shPlan.T) (w : World) (h0 : Rep w shPlan cs0 D0) : Calls Try.prog 74 #[ofCs shPlan cs0] w (Got w (res D0)) := by
  obtain ⟨p, c, css, rfl, a2, a4, a5, a6, a7⟩ := pla_open h0
  obtain ⟨l, u⟩ := D0
  simp only at a4 a5 a6 a7
  have C := hid (fun w1 (h : Ext w w1) (f0 : w1.cell? ⟨w.heap.size, 0, none⟩ = some (.slice p l.length c)) => l09Is_any _ _ p _ c l css w1 f0 rfl a4 (a2.ext h) (a5.imp fun _ _ => Rep.ext h) a6 a7)
  unfold maxLen at a4
  generalize hn : l.length = n at *
  have HL := hid hn
  clear hn h0
  simp only [ofCs, Sh.agg, if_true]
  cases hb : plaB l
  · rw [res_no hb]
    rw [hb] at C
    clear hb
    go_enter Try.func74, Try.ntmps74
    go_wp2_with fail
    refine (C.out _ (Ext.alloc _ _) (by simp)).mono ?_
    rintro e w1 ⟨rfl, e1⟩
    go_wp2
    go_ret2
    exact ⟨rfl, (Ext.alloc _ _).trans e1⟩
  have hbd : ∀ d ∈ l, inB d.2.1 1 8 = true ∧ inB d.2.2.1 1 8 = true := fun d hd => stp_bd (pla_bd l none (by unfold plaB at hb; rw [Bool.and_eq_true] at hb; exact hb.1) d hd)
  rw [res_yes hb]
  rw [hb] at C
  clear hb
  generalize hG : roomGo l 0 = G
  have HG := hid hG
  have Hbd := hid hbd
  clear hG hbd
  go_enter Try.func74, Try.ntmps74
  go_wp2_with fail
  refine (C.out _ (Ext.alloc _ _) (by simp)).mono ?_
  rintro e w1 ⟨rfl, e1⟩
  have g1 : w1.cell? ⟨w.heap.size, 0, none⟩ = some (.slice p n c) := e1.cell (by simp)
  have z1 : w.heap.size < w1.heap.size := by have := e1.size; simp at this; omega
  have e2 := (Ext.alloc _ _).trans e1
  clear e1
  go_wp2
  go_loopw [4, 5] (fun mv iv wr => ∃ (i : Nat) (m : Int), i ≤ n ∧ iv = .int .i64 i ∧ mv = .int .i64 m ∧ 0 ≤ m ∧ m ≤ 16 ∧ Hid (roomGo (l.drop i) m = G) ∧ Ext w wr ∧ wr.cell? ⟨w.heap.size, 0, none⟩ = some (.slice p n c)) (fun _ iv _ => n - (intOf iv).toNat)
  case atStart => exact ⟨0, 0, by omega, rfl, rfl, by omega, by omega, by simpa [Hid] using HG.out, e2, g1⟩
  case round =>
    clear g1 e2
    obtain ⟨i, m, hi, rfl, rfl, m0, m1, HI, he, g0⟩ := hrel
    by_cases hlt : i < n
    · have hil : i < l.length := by rw [HL.out]; exact hlt
      obtain ⟨ci, hci, ri⟩ := a5.get i l[i] (by simp)
      obtain ⟨pw, cw, pb, cb, ps, cq, rfl, l1, l2, l3⟩ := stp_cells ri
      have hst := HI.out
      rw [List.drop_eq_getElem_cons hil, roomGo] at hst
      obtain ⟨q1, q2⟩ := Hbd.out l[i] (List.getElem_mem hil)
      rw [inB_true] at q1 q2
      obtain ⟨i1, i2⟩ := q1
      obtain ⟨o1, o2⟩ := q2
      have hs1 := a2.some_of a6 (by decide) (show 0 < css.length by omega)
      have hpd := (a2.ext he).ext (Ext.drew wr)
      have gd := (Ext.drew wr).cell g0
      generalize hD : l[i] = d at *
      have Hst := hid hst
      have hwr : IntKind.i64.wrap (d.2.1 + d.2.2.1) = d.2.1 + d.2.2.1 := wrap_in _ (by omega) (by omega)
      clear hst hD ri
      go_wp2
      refine wp_region_xall (F := fun _ _ u => u = .int .i64 (max m (d.2.1 + d.2.2.1))) (by kernel_rfl) (by kernel_rfl) (by kernel_rfl) ?_
      intro wf hwf
      repeat (first
        | (refine x_skip rfl ?_; simp only [Act.put, ev_tmp, List.setIfInBounds_toArray, List.set_cons_succ, List.set_cons_zero, List.getD_cons_succ, List.getD_cons_zero])
        | (refine x_mv rfl rfl rfl ?_; simp only [Act.put, ev_tmp, List.setIfInBounds_toArray, List.set_cons_succ, List.set_cons_zero, List.getD_cons_succ, List.getD_cons_zero])
        | (refine x_as rfl rfl rfl ?_; simp only [Act.put, ev_tmp, List.setIfInBounds_toArray, List.set_cons_succ, List.set_cons_zero, List.getD_cons_succ, List.getD_cons_zero])
        | (refine x_ldField (f := 1) (j := i) (off := 1) rfl rfl (fun _ => rfl) rfl (fun _ _ => rfl) rfl (fun _ => rfl) (fun _ _ => rfl) fo_implPlanStep_1 rfl rfl rfl hpd a6 a7 hlt hs1 hci rfl ?_; simp only [Act.put, ev_tmp, List.setIfInBounds_toArray, List.set_cons_succ, List.set_cons_zero, List.getD_cons_succ, List.getD_cons_zero])
        | (refine x_ldField (f := 2) (j := i) (off := 2) rfl rfl (fun _ => rfl) rfl (fun _ _ => rfl) rfl (fun _ => rfl) (fun _ _ => rfl) fo_implPlanStep_2 rfl rfl rfl hpd a6 a7 hlt hs1 hci rfl ?_; simp only [Act.put, ev_tmp, List.setIfInBounds_toArray, List.set_cons_succ, List.set_cons_zero, List.getD_cons_succ, List.getD_cons_zero])
        | (refine x_callf (f := 80) (args := #[.int .i64 m, .int .i64 (d.2.1 + d.2.2.1)]) rfl rfl Try.func80 rfl (by kernel_rfl) ?_ ?_ ?_; (focus (simp [Act.eval]; done)); (focus (intro w1 hw1; exact (calls_same (l00Max_any m (d.2.1 + d.2.2.1) w1)))); rintro u w3 e3 e4 rfl; simp only [Act.put, ev_tmp, List.setIfInBounds_toArray, List.set_cons_succ, List.set_cons_zero, List.getD_cons_succ, List.getD_cons_zero])
        | (refine x_run rfl fun K hK w1 hw1 => ?_; have k0 := hw1.cell (gd); go_simp; refine hK _ ?_; clear hK K k0 hw1 w1))
      refine x_nil ?_
      go_wp2
      go_roundw
      case rel => exact ⟨i + 1, max m (d.2.1 + d.2.2.1), by omega, by go_num, rfl, by omega, by omega, Hst.out, (he.trans (Ext.drew _)).trans hwf, hwf.cell gd⟩
      case measure => simp [intOf]; omega
    · obtain rfl : i = n := by omega
      have hst := HI.out
      rw [List.drop_of_length_le (by rw [HL.out]; exact Nat.le_refl _), roomGo] at hst
      subst hst
      go_wp2
      go_ret2
      exact ⟨rfl, he⟩

set_option maxRecDepth 100000 in
set_option maxHeartbeats 1000000 in
theorem impl_ok (cs0 : List Value) (D0 : shPlan.T) (w : World) (h0 : Rep w shPlan cs0 D0) : Calls Try.prog 75 #[ofCs shPlan cs0] w (Got w (res D0)) := by
  obtain ⟨p, c, css, rfl, a2, a4, a5, a6, a7⟩ := pla_open h0
  obtain ⟨l, u⟩ := D0
  simp only at a4 a5 a6 a7
  have C := hid (fun w1 (h : Ext w w1) => ValidPlan_any p _ c l css w1 rfl a4 (a2.ext h) (a5.imp fun _ _ => Rep.ext h) a6 a7)
  unfold maxLen at a4
  generalize hn : l.length = n at *
  have HL := hid hn
  clear hn h0
  simp only [ofCs, Sh.agg, if_true]
  cases hb : plaB l
  · rw [res_no hb]
    rw [hb] at C
    clear hb
    go_enter Try.func75, Try.ntmps75
    go_wp2_with fail
    refine (C.out _ (Ext.alloc _ _)).mono ?_
    rintro e w1 ⟨rfl, e1⟩
    go_wp2
    go_ret2
    exact ⟨rfl, (Ext.alloc _ _).trans e1⟩
  have hbd : ∀ d ∈ l, inB d.2.1 1 8 = true ∧ inB d.2.2.1 1 8 = true := fun d hd => stp_bd (pla_bd l none (by unfold plaB at hb; rw [Bool.and_eq_true] at hb; exact hb.1) d hd)
  rw [res_yes hb]
  rw [hb] at C
  clear hb
  generalize hG : roomGo l 0 = G
  have HG := hid hG
  have Hbd := hid hbd
  clear hG hbd
  go_enter Try.func75, Try.ntmps75
  go_wp2_with fail
  refine (C.out _ (Ext.alloc _ _)).mono ?_
  rintro e w1 ⟨rfl, e1⟩
  have g1 : w1.cell? ⟨w.heap.size, 0, none⟩ = some (.slice p n c) := e1.cell (by simp)
  have e2 := (Ext.alloc _ _).trans e1
  clear e1
  go_wp2
  go_loopw [4, 13] (fun mv iv wr => ∃ (i : Nat) (m : Int), i ≤ n ∧ iv = .int .i64 i ∧ mv = .int .i64 m ∧ 0 ≤ m ∧ m ≤ 16 ∧ Hid (roomGo (l.drop i) m = G) ∧ Ext w wr) (fun _ iv _ => n - (intOf iv).toNat)
  case atStart => exact ⟨0, 0, by omega, rfl, rfl, by omega, by omega, by simpa [Hid] using HG.out, e2⟩
  case round =>
    clear g1 e2
    obtain ⟨i, m, hi, rfl, rfl, m0, m1, HI, he⟩ := hrel
    by_cases hlt : i < n
    · have hil : i < l.length := by rw [HL.out]; exact hlt
      obtain ⟨ci, hci, ri⟩ := a5.get i l[i] (by simp)
      obtain ⟨pw, cw, pb, cb, ps, cq, rfl, l1, l2, l3⟩ := stp_cells ri
      have hst := HI.out
      rw [List.drop_eq_getElem_cons hil, roomGo] at hst
      obtain ⟨q1, q2⟩ := Hbd.out l[i] (List.getElem_mem hil)
      rw [inB_true] at q1 q2
      obtain ⟨i1, i2⟩ := q1
      obtain ⟨o1, o2⟩ := q2
      have hs1 := a2.some_of a6 (by decide) (show 0 < css.length by omega)
      have hp := a2.ext he
      generalize hD : l[i] = d at *
      have Hst := hid hst
      clear hst hD ri
      go_wp2_with (refine wl_idxloadE (s := shPlanStep) (j := i) rfl rfl rfl rfl (fun _ => rfl) rfl rfl rfl hp a6 a7 hlt hs1 hci ?_; simp only [ofCs, Sh.agg, if_true])
      go_roundw
      case rel => exact ⟨i + 1, max m (d.2.1 + d.2.2.1), by omega, by go_num, by congr 1; rw [Int.max_def]; split <;> split <;> omega, by omega, by omega, Hst.out, he.trans (Ext.alloc _ _)⟩
      case measure => simp [intOf]; omega
    · obtain rfl : i = n := by omega
      have hst := HI.out
      rw [List.drop_of_length_le (by rw [HL.out]; exact Nat.le_refl _), roomGo] at hst
      subst hst
      go_wp2
      go_ret2
      exact ⟨rfl, he⟩
end Go.Proofs.Ytipojkfmbolehaa.lPlanRoom
