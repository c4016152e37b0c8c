/- PlanProducts of the program and of the reference. -/
import Derived.Test.YtipojkfmbolehaaVPla
import Derived.Test.YtipojkfmbolehaaMax
namespace Go.Proofs.Ytipojkfmbolehaa.lPlanProducts
set_option linter.unusedSimpArgs false
set_option linter.unusedVariables false
open Go.RowKit

def prodOf (d : shPlanStep.T) : Int := if d.1 = 0 then d.2.1 * d.2.2.1 + (d.2.2.2.2.2.1.length : Int) else if d.1 = 2 then d.2.1 else if d.1 = 5 then d.2.1 else 0
def prodGo : List shPlanStep.T → Int → Int
  | [], m => m
  | d :: l, m => prodGo l (m + prodOf d)
def res (D : shPlan.T) : Int × Bool := if plaB D.1 then (prodGo D.1 0, true) else (0, false)
def Got (w : World) (r : Int × Bool) (e : Ending) (w' : World) : Prop := e = .returned (.tuple #[.int .i64 r.1, .bool r.2]) ∧ Ext w w'
theorem res_yes {D : shPlan.T} (h : plaB D.1 = true) : res D = (prodGo D.1 0, true) := by unfold res; rw [if_pos h]
theorem res_no {D : shPlan.T} (h : plaB D.1 = false) : res D = (0, false) := by unfold res; rw [if_neg (by simp [h])]
/-- What a valid plan's steps are like. -/
theorem pla_bd : ∀ (l : List shPlanStep.T) (p : Option Int), plaGo p l = true → ∀ d ∈ l, stpD d = true
  | [], _, _, d, hd => by simp at hd
  | x :: l, p, h, d, hd => by
    simp only [plaGo, Bool.and_eq_true] at h
    rcases List.mem_cons.1 hd with rfl | hd
    · exact h.1
    · exact pla_bd l _ h.2.2 d hd
theorem stp_bd {d : shPlanStep.T} (h : stpD d = true) : inB d.2.1 1 8 = true ∧ inB d.2.2.1 1 8 = true ∧ d.2.2.2.2.2.1.length ≤ 8 := by
  unfold stpD stpB layB at h
  simp only [Bool.and_eq_true] at h
  refine ⟨h.1.2.1, h.1.2.2.1, ?_⟩
  have h2 := inB_true.1 h.1.2.2.1
  have h3 := h.2
  split at h3
  · simp only [Bool.or_eq_true, Bool.and_eq_true, decide_eq_true_eq] at h3
    rcases h3 with h3 | h3
    · omega
    · have := h3.1; omega
  · simp only [Bool.and_eq_true, decide_eq_true_eq] at h3
    have := h3.1; omega

set_option maxRecDepth 100000 in
set_option maxHeartbeats 1000000 in
theorem spec_ok (cs0 : List Value) (D0 : shPlan.T) (w : World) (h0 : Rep w shPlan cs0 D0) : Calls Try.prog 76 #[ofCs shPlan cs0] w (Got w (res D0)) := by
  obtain ⟨p, c, css, rfl, a2, a4, a5, a6, a7⟩ := pla_open h0
  obtain ⟨l, u⟩ := D0
  simp only at a4 a5 a6 a7
  have C := hid (fun w1 (h : Ext w w1) (f0 : w1.cell? ⟨w.heap.size, 0, none⟩ = some (.slice p l.length c)) => l09Is_any _ _ p _ c l css w1 f0 rfl a4 (a2.ext h) (a5.imp fun _ _ => Rep.ext h) a6 a7)
  unfold maxLen at a4
  generalize hn : l.length = n at *
  have HL := hid hn
  clear hn h0
  simp only [ofCs, Sh.agg, if_true]
  cases hb : plaB l
  · rw [res_no hb]
    rw [hb] at C
    clear hb
    go_enter Try.func76, Try.ntmps76
    go_wp2_with fail
    refine (C.out _ (Ext.alloc _ _) (by simp)).mono ?_
    rintro e w1 ⟨rfl, e1⟩
    go_wp2
    go_ret2
    exact ⟨rfl, (Ext.alloc _ _).trans e1⟩
  have hbd : ∀ d ∈ l, inB d.2.1 1 8 = true ∧ inB d.2.2.1 1 8 = true ∧ d.2.2.2.2.2.1.length ≤ 8 := fun d hd => stp_bd (pla_bd l none (by unfold plaB at hb; rw [Bool.and_eq_true] at hb; exact hb.1) d hd)
  have hn6 : n ≤ 6 := by have := hb; unfold plaB at this; rw [Bool.and_eq_true, decide_eq_true_eq] at this; rw [← HL.out]; exact this.2
  rw [res_yes hb]
  rw [hb] at C
  clear hb
  generalize hG : prodGo l 0 = G
  have HG := hid hG
  have Hbd := hid hbd
  clear hG hbd
  go_enter Try.func76, Try.ntmps76
  go_wp2_with fail
  refine (C.out _ (Ext.alloc _ _) (by simp)).mono ?_
  rintro e w1 ⟨rfl, e1⟩
  have g1 : w1.cell? ⟨w.heap.size, 0, none⟩ = some (.slice p n c) := e1.cell (by simp)
  have z1 : w.heap.size < w1.heap.size := by have := e1.size; simp at this; omega
  have e2 := (Ext.alloc _ _).trans e1
  clear e1
  go_wp2
  go_loopw [4, 5] (fun mv iv wr => ∃ (i : Nat) (m : Int), i ≤ n ∧ iv = .int .i64 i ∧ mv = .int .i64 m ∧ 0 ≤ m ∧ m ≤ 72 * (i : Int) ∧ Hid (prodGo (l.drop i) m = G) ∧ Ext w wr ∧ wr.cell? ⟨w.heap.size, 0, none⟩ = some (.slice p n c)) (fun _ iv _ => n - (intOf iv).toNat)
  case atStart => exact ⟨0, 0, by omega, rfl, rfl, by omega, by omega, by simpa [Hid] using HG.out, e2, g1⟩
  case round =>
    clear g1 e2
    obtain ⟨i, m, hi, rfl, rfl, m0, m1, HI, he, g0⟩ := hrel
    by_cases hlt : i < n
    · have hil : i < l.length := by rw [HL.out]; exact hlt
      obtain ⟨ci, hci, ri⟩ := a5.get i l[i] (by simp)
      obtain ⟨pw, cw, pb, cb, ps, cq, rfl, l1, l2, l3⟩ := stp_cells ri
      have hst := HI.out
      rw [List.drop_eq_getElem_cons hil, prodGo] at hst
      obtain ⟨q1, q2, q3⟩ := Hbd.out l[i] (List.getElem_mem hil)
      rw [inB_true] at q1 q2
      obtain ⟨i1, i2⟩ := q1
      obtain ⟨o1, o2⟩ := q2
      have hs1 := a2.some_of a6 (by decide) (show 0 < css.length by omega)
      have hp := a2.ext he
      generalize hD : l[i] = d at *
      clear hD ri
      obtain ⟨M0, M1⟩ := mul_bd (i := d.2.1) (o := d.2.2.1) ⟨i1, i2⟩ ⟨o1, o2⟩
      by_cases k0 : d.1 = 0
      · have hP : prodOf d = d.2.1 * d.2.2.1 + (d.2.2.2.2.2.1.length : Int) := by unfold prodOf; rw [if_pos k0]
        have B0 := beq_t k0
        rw [hP] at hst
        have Hst := hid hst
        clear hst hP k0
        go_wp2_with (refine wl_idxloadE (s := shPlanStep) (j := i) rfl rfl rfl rfl (fun _ => rfl) rfl rfl rfl hp a6 a7 hlt hs1 hci ?_; simp only [ofCs, Sh.agg, if_true])
        go_roundw
        case rel => exact ⟨i + 1, m + (d.2.1 * d.2.2.1 + (d.2.2.2.2.2.1.length : Int)), by omega, by go_num, rfl, by omega, by omega, Hst.out, he.trans (Ext.alloc _ _), (Ext.alloc _ _).cell g0⟩
        case measure => simp [intOf]; omega
      have B0 := beq_f k0
      by_cases k2 : d.1 = 2
      · have hP : prodOf d = d.2.1 := by unfold prodOf; rw [if_neg k0, if_pos k2]
        have B2 := beq_t k2
        rw [hP] at hst
        have Hst := hid hst
        clear hst hP k0 k2
        go_wp2_with (refine wl_idxloadE (s := shPlanStep) (j := i) rfl rfl rfl rfl (fun _ => rfl) rfl rfl rfl hp a6 a7 hlt hs1 hci ?_; simp only [ofCs, Sh.agg, if_true])
        go_roundw
        case rel => exact ⟨i + 1, m + d.2.1, by omega, by go_num, rfl, by omega, by omega, Hst.out, he.trans (Ext.alloc _ _), (Ext.alloc _ _).cell g0⟩
        case measure => simp [intOf]; omega
      have B2 := beq_f k2
      by_cases k5 : d.1 = 5
      · have hP : prodOf d = d.2.1 := by unfold prodOf; rw [if_neg k0, if_neg k2, if_pos k5]
        have B5 := beq_t k5
        rw [hP] at hst
        have Hst := hid hst
        clear hst hP k0 k2 k5
        go_wp2_with (refine wl_idxloadE (s := shPlanStep) (j := i) rfl rfl rfl rfl (fun _ => rfl) rfl rfl rfl hp a6 a7 hlt hs1 hci ?_; simp only [ofCs, Sh.agg, if_true])
        go_roundw
        case rel => exact ⟨i + 1, m + d.2.1, by omega, by go_num, rfl, by omega, by omega, Hst.out, he.trans (Ext.alloc _ _), (Ext.alloc _ _).cell g0⟩
        case measure => simp [intOf]; omega
      have B5 := beq_f k5
      have hP : prodOf d = 0 := by unfold prodOf; rw [if_neg k0, if_neg k2, if_neg k5]
      rw [hP, Int.add_zero] at hst
      have Hst := hid hst
      clear hst hP k0 k2 k5
      go_wp2_with (refine wl_idxloadE (s := shPlanStep) (j := i) rfl rfl rfl rfl (fun _ => rfl) rfl rfl rfl hp a6 a7 hlt hs1 hci ?_; simp only [ofCs, Sh.agg, if_true])
      go_roundw
      case rel => exact ⟨i + 1, m, by omega, by go_num, rfl, by omega, by omega, Hst.out, he.trans (Ext.alloc _ _), (Ext.alloc _ _).cell g0⟩
      case measure => simp [intOf]; omega
    · obtain rfl : i = n := by omega
      have hst := HI.out
      rw [List.drop_of_length_le (by rw [HL.out]; exact Nat.le_refl _), prodGo] at hst
      subst hst
      go_wp2
      go_ret2
      exact ⟨rfl, he⟩

set_option maxRecDepth 100000 in
set_option maxHeartbeats 1000000 in
theorem impl_ok (cs0 : List Value) (D0 : shPlan.T) (w : World) (h0 : Rep w shPlan cs0 D0) : Calls Try.prog 77 #[ofCs shPlan cs0] w (Got w (res D0)) := by
  obtain ⟨p, c, css, rfl, a2, a4, a5, a6, a7⟩ := pla_open h0
  obtain ⟨l, u⟩ := D0
  simp only at a4 a5 a6 a7
  have C := hid (fun w1 (h : Ext w w1) => ValidPlan_any p _ c l css w1 rfl a4 (a2.ext h) (a5.imp fun _ _ => Rep.ext h) a6 a7)
  unfold maxLen at a4
  generalize hn : l.length = n at *
  have HL := hid hn
  clear hn h0
  simp only [ofCs, Sh.agg, if_true]
  cases hb : plaB l
  · rw [res_no hb]
    rw [hb] at C
    clear hb
    go_enter Try.func77, Try.ntmps77
    go_wp2_with fail
    refine (C.out _ (Ext.alloc _ _)).mono ?_
    rintro e w1 ⟨rfl, e1⟩
    go_wp2
    go_ret2
    exact ⟨rfl, (Ext.alloc _ _).trans e1⟩
  have hbd : ∀ d ∈ l, inB d.2.1 1 8 = true ∧ inB d.2.2.1 1 8 = true ∧ d.2.2.2.2.2.1.length ≤ 8 := fun d hd => stp_bd (pla_bd l none (by unfold plaB at hb; rw [Bool.and_eq_true] at hb; exact hb.1) d hd)
  have hn6 : n ≤ 6 := by have := hb; unfold plaB at this; rw [Bool.and_eq_true, decide_eq_true_eq] at this; rw [← HL.out]; exact this.2
  rw [res_yes hb]
  rw [hb] at C
  clear hb
  generalize hG : prodGo l 0 = G
  have HG := hid hG
  have Hbd := hid hbd
  clear hG hbd
  go_enter Try.func77, Try.ntmps77
  go_wp2_with fail
  refine (C.out _ (Ext.alloc _ _)).mono ?_
  rintro e w1 ⟨rfl, e1⟩
  have g1 : w1.cell? ⟨w.heap.size, 0, none⟩ = some (.slice p n c) := e1.cell (by simp)
  have e2 := (Ext.alloc _ _).trans e1
  clear e1
  go_wp2
  go_loopw [4, 13] (fun mv iv wr => ∃ (i : Nat) (m : Int), i ≤ n ∧ iv = .int .i64 i ∧ mv = .int .i64 m ∧ 0 ≤ m ∧ m ≤ 72 * (i : Int) ∧ Hid (prodGo (l.drop i) m = G) ∧ Ext w wr) (fun _ iv _ => n - (intOf iv).toNat)
  case atStart => exact ⟨0, 0, by omega, rfl, rfl, by omega, by omega, by simpa [Hid] using HG.out, e2⟩
  case round =>
    clear g1 e2
    obtain ⟨i, m, hi, rfl, rfl, m0, m1, HI, he⟩ := hrel
    by_cases hlt : i < n
    · have hil : i < l.length := by rw [HL.out]; exact hlt
      obtain ⟨ci, hci, ri⟩ := a5.get i l[i] (by simp)
      obtain ⟨pw, cw, pb, cb, ps, cq, rfl, l1, l2, l3⟩ := stp_cells ri
      have hst := HI.out
      rw [List.drop_eq_getElem_cons hil, prodGo] at hst
      obtain ⟨q1, q2, q3⟩ := Hbd.out l[i] (List.getElem_mem hil)
      rw [inB_true] at q1 q2
      obtain ⟨i1, i2⟩ := q1
      obtain ⟨o1, o2⟩ := q2
      have hs1 := a2.some_of a6 (by decide) (show 0 < css.length by omega)
      have hp := a2.ext he
      generalize hD : l[i] = d at *
      clear hD ri
      obtain ⟨M0, M1⟩ := mul_bd (i := d.2.1) (o := d.2.2.1) ⟨i1, i2⟩ ⟨o1, o2⟩
      by_cases k0 : d.1 = 0
      · have hP : prodOf d = d.2.1 * d.2.2.1 + (d.2.2.2.2.2.1.length : Int) := by unfold prodOf; rw [if_pos k0]
        have B0 := beq_t k0
        rw [hP] at hst
        have Hst := hid hst
        clear hst hP k0
        go_wp2_with (refine wl_idxloadE (s := shPlanStep) (j := i) rfl rfl rfl rfl (fun _ => rfl) rfl rfl rfl hp a6 a7 hlt hs1 hci ?_; simp only [ofCs, Sh.agg, if_true])
        go_roundw
        case rel => exact ⟨i + 1, m + (d.2.1 * d.2.2.1 + (d.2.2.2.2.2.1.length : Int)), by omega, by go_num, rfl, by omega, by omega, Hst.out, he.trans (Ext.alloc _ _)⟩
        case measure => simp [intOf]; omega
      have B0 := beq_f k0
      by_cases k2 : d.1 = 2
      · have hP : prodOf d = d.2.1 := by unfold prodOf; rw [if_neg k0, if_pos k2]
        have B2 := beq_t k2
        rw [hP] at hst
        have Hst := hid hst
        clear hst hP k0 k2
        go_wp2_with (refine wl_idxloadE (s := shPlanStep) (j := i) rfl rfl rfl rfl (fun _ => rfl) rfl rfl rfl hp a6 a7 hlt hs1 hci ?_; simp only [ofCs, Sh.agg, if_true])
        go_roundw
        case rel => exact ⟨i + 1, m + d.2.1, by omega, by go_num, rfl, by omega, by omega, Hst.out, he.trans (Ext.alloc _ _)⟩
        case measure => simp [intOf]; omega
      have B2 := beq_f k2
      by_cases k5 : d.1 = 5
      · have hP : prodOf d = d.2.1 := by unfold prodOf; rw [if_neg k0, if_neg k2, if_pos k5]
        have B5 := beq_t k5
        rw [hP] at hst
        have Hst := hid hst
        clear hst hP k0 k2 k5
        go_wp2_with (refine wl_idxloadE (s := shPlanStep) (j := i) rfl rfl rfl rfl (fun _ => rfl) rfl rfl rfl hp a6 a7 hlt hs1 hci ?_; simp only [ofCs, Sh.agg, if_true])
        go_roundw
        case rel => exact ⟨i + 1, m + d.2.1, by omega, by go_num, rfl, by omega, by omega, Hst.out, he.trans (Ext.alloc _ _)⟩
        case measure => simp [intOf]; omega
      have B5 := beq_f k5
      have hP : prodOf d = 0 := by unfold prodOf; rw [if_neg k0, if_neg k2, if_neg k5]
      rw [hP, Int.add_zero] at hst
      have Hst := hid hst
      clear hst hP k0 k2 k5
      go_wp2_with (refine wl_idxloadE (s := shPlanStep) (j := i) rfl rfl rfl rfl (fun _ => rfl) rfl rfl rfl hp a6 a7 hlt hs1 hci ?_; simp only [ofCs, Sh.agg, if_true])
      go_roundw
      case rel => exact ⟨i + 1, m, by omega, by go_num, rfl, by omega, by omega, Hst.out, he.trans (Ext.alloc _ _)⟩
      case measure => simp [intOf]; omega
    · obtain rfl : i = n := by omega
      have hst := HI.out
      rw [List.drop_of_length_le (by rw [HL.out]; exact Nat.le_refl _), prodGo] at hst
      subst hst
      go_wp2
      go_ret2
      exact ⟨rfl, he⟩
end Go.Proofs.Ytipojkfmbolehaa.lPlanProducts
