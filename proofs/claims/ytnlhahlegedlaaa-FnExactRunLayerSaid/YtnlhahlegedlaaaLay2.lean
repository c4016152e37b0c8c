/- Layers: the reference's part. -/
import Derived.Test.YtnlhahlegedlaaaLay
namespace Go.Proofs.Ytnlhahlegedlaaa
set_option linter.unusedSimpArgs false
set_option linter.unusedVariables false
open Go.RowKit

set_option maxRecDepth 100000 in
set_option maxHeartbeats 1000000 in
theorem l03Counts_any {sp : Option Nat} (bl o' : Nat) (k i o : Int) (w : World) (f0 : w.cell? ⟨bl, o', sp⟩ = some (.int .i64 k)) (f1 : w.cell? ⟨bl, o' + 1, none⟩ = some (.int .i64 i)) (f2 : w.cell? ⟨bl, o' + 2, none⟩ = some (.int .i64 o)) (k2 : 1 ≤ i ∧ i ≤ 8) (k3 : 1 ≤ o ∧ o ≤ 8) :
    Calls Try.prog 168 #[.pointer (some ⟨bl, o', sp⟩)] w fun e w' => e = .returned (.tuple #[.int .i64 (wCnt k i o), .int .i64 (bCnt k i o)]) ∧ Ext w w' := by
  obtain ⟨m0, m1⟩ := mul_bd k2 k3
  by_cases hk0 : k = 0
  · subst hk0
    have hw : wCnt 0 i o = i * o := rfl
    have hb : bCnt 0 i o = o := rfl
    rw [hw, hb]
    have hwr : IntKind.i64.wrap (i * o) = i * o := wrap_in _ (by omega) (by omega)
    have d1 := (Ext.drew w).cell f1
    have d2 := (Ext.drew w).cell f2
    clear hw hb
    go_enter Try.func168, Try.ntmps168
    go_wp2
    refine wp_region_xall (F := fun _ _ _ => True) (by kernel_rfl) (by kernel_rfl) (by kernel_rfl) ?_
    intro wf hwf
    repeat (first
      | (refine x_skip rfl ?_; simp only [Act.put, ev_tmp, List.setIfInBounds_toArray, List.set_cons_succ, List.set_cons_zero, List.getD_cons_succ, List.getD_cons_zero])
      | (refine x_mv rfl rfl rfl ?_; simp only [Act.put, ev_tmp, List.setIfInBounds_toArray, List.set_cons_succ, List.set_cons_zero, List.getD_cons_succ, List.getD_cons_zero])
      | (refine x_as rfl rfl rfl ?_; simp only [Act.put, ev_tmp, List.setIfInBounds_toArray, List.set_cons_succ, List.set_cons_zero, List.getD_cons_succ, List.getD_cons_zero])
      | (refine x_run rfl fun K hK w1 hw1 => ?_; have k0 := hw1.cell (d1); have k1 := hw1.cell (d2); go_simp; refine hK _ ?_; clear hK K k0 k1 hw1 w1))
    refine x_nil ?_
    go_wp2
    go_ret2
    exact ⟨rfl, (Ext.drew _).trans hwf⟩
  by_cases hk2 : k = 2
  · subst hk2
    have hw : wCnt 2 i o = i := rfl
    have hb : bCnt 2 i o = 0 := rfl
    rw [hw, hb]
    go_enter Try.func168, Try.ntmps168
    go_wp2
    go_ret2
    exact ⟨rfl, Ext.refl _⟩
  by_cases hk5 : k = 5
  · subst hk5
    have hw : wCnt 5 i o = i := rfl
    have hb : bCnt 5 i o = i := rfl
    rw [hw, hb]
    have d1 := (Ext.drew w).cell f1
    clear hw hb
    go_enter Try.func168, Try.ntmps168
    go_wp2
    refine wp_region_xall (F := fun _ _ _ => True) (by kernel_rfl) (by kernel_rfl) (by kernel_rfl) ?_
    intro wf hwf
    repeat (first
      | (refine x_skip rfl ?_; simp only [Act.put, ev_tmp, List.setIfInBounds_toArray, List.set_cons_succ, List.set_cons_zero, List.getD_cons_succ, List.getD_cons_zero])
      | (refine x_mv rfl rfl rfl ?_; simp only [Act.put, ev_tmp, List.setIfInBounds_toArray, List.set_cons_succ, List.set_cons_zero, List.getD_cons_succ, List.getD_cons_zero])
      | (refine x_as rfl rfl rfl ?_; simp only [Act.put, ev_tmp, List.setIfInBounds_toArray, List.set_cons_succ, List.set_cons_zero, List.getD_cons_succ, List.getD_cons_zero])
      | (refine x_run rfl fun K hK w1 hw1 => ?_; have k0 := hw1.cell (d1); go_simp; refine hK _ ?_; clear hK K k0 hw1 w1))
    refine x_nil ?_
    go_wp2
    go_ret2
    exact ⟨rfl, (Ext.drew _).trans hwf⟩
  have F0 := beq_f hk0
  have F2 := beq_f hk2
  have F5 := beq_f hk5
  have hw : wCnt k i o = 0 := by unfold wCnt; rw [if_neg hk0, if_neg hk2, if_neg hk5]
  have hb : bCnt k i o = 0 := by unfold bCnt; rw [if_neg hk0, if_neg hk2, if_neg hk5]
  rw [hw, hb]
  clear hk0 hk2 hk5 hw hb
  go_enter Try.func168, Try.ntmps168
  go_wp2
  go_ret2
  exact ⟨rfl, Ext.refl _⟩

set_option maxRecDepth 100000 in
set_option maxHeartbeats 1000000 in
theorem l03Layer_any {sp : Option Nat} (bl o' : Nat) (k i o : Int) (pw pb : Option Addr) (nw cw nb cb : Nat) (w : World)
    (f0 : w.cell? ⟨bl, o', sp⟩ = some (.int .i64 k)) (f1 : w.cell? ⟨bl, o' + 1, none⟩ = some (.int .i64 i)) (f2 : w.cell? ⟨bl, o' + 2, none⟩ = some (.int .i64 o))
    (f3 : w.cell? ⟨bl, o' + 3, none⟩ = some (.slice pw nw cw)) (f4 : w.cell? ⟨bl, o' + 4, none⟩ = some (.slice pb nb cb)) (h1 : nw ≤ maxLen) (h2 : nb ≤ maxLen) :
    Calls Try.prog 106 #[.pointer (some ⟨bl, o', sp⟩)] w (RetB w (layB k i o nw nb)) := by
  unfold maxLen at h1 h2
  generalize hB : layB k i o nw nb = B
  have HB := hid hB
  clear hB
  unfold layB at HB
  cases k1 : inB k 0 5
  · have K1 := hid k1
    have : B = false := by rw [← HB.out, k1]; rfl
    subst this
    clear k1
    go_enter Try.func106, Try.ntmps106
    go_wp2_with (go_at_call 167; refine (l00In_any _ _ _ _).mono ?_; rintro e w1 ⟨rfl, rfl⟩; first | rw [K1.out])
    go_ret
    exact ⟨rfl, Ext.refl _⟩
  cases k2 : inB i 1 8
  · have K1 := hid k1
    have K2 := hid k2
    have : B = false := by rw [← HB.out, k1, k2]; rfl
    subst this
    clear k1 k2
    go_enter Try.func106, Try.ntmps106
    go_wp2_with (go_at_call 167; refine (l00In_any _ _ _ _).mono ?_; rintro e w1 ⟨rfl, rfl⟩; first | rw [K1.out] | rw [K2.out])
    go_ret
    exact ⟨rfl, Ext.refl _⟩
  cases k3 : inB o 1 8
  · have K1 := hid k1
    have K2 := hid k2
    have K3 := hid k3
    have : B = false := by rw [← HB.out, k1, k2, k3]; rfl
    subst this
    clear k1 k2 k3
    go_enter Try.func106, Try.ntmps106
    go_wp2_with (go_at_call 167; refine (l00In_any _ _ _ _).mono ?_; rintro e w1 ⟨rfl, rfl⟩; first | rw [K1.out] | rw [K2.out] | rw [K3.out])
    go_ret
    exact ⟨rfl, Ext.refl _⟩
  have K1 := hid k1
  have K2 := hid k2
  have K3 := hid k3
  rw [inB_true] at k1 k2 k3
  have hB2 : B = ((decide (k = 0) || decide (i = o)) && (decide ((nw : Int) = wCnt k i o) && decide ((nb : Int) = bCnt k i o))) := by rw [← HB.out, K1.out, K2.out, K3.out]; rfl
  clear HB
  have C := hid (fun w' (h : Ext w w') => l03Counts_any bl o' k i o w' (h.cell f0) (h.cell f1) (h.cell f2) k2 k3)
  generalize wCnt k i o = W at *
  generalize bCnt k i o = V at *
  have key : ∀ (q : Bool), q = (decide (k = 0) || decide (i = o)) → True := fun _ _ => trivial
  clear key
  by_cases hk0 : k = 0
  · subst hk0
    by_cases e1 : (nw : Int) = W
    · by_cases e2 : (nb : Int) = V
      all_goals
        have E1 := beq_t e1
        first | have E2 := beq_t e2 | have E2 := beq_f e2
        simp only [decide_true, e1, e2, decide_true, decide_false, Bool.true_or, Bool.or_true, Bool.true_and, Bool.and_true, Bool.and_false] at hB2
        subst hB2
        clear e1 e2 
        go_enter Try.func106, Try.ntmps106
        go_wp2_with (go_at_call 167; refine (l00In_any _ _ _ _).mono ?_; rintro e w1 ⟨rfl, rfl⟩; first | rw [K1.out] | rw [K2.out] | rw [K3.out])
        refine (C.out _ (Ext.refl _)).mono ?_
        rintro e w1 ⟨rfl, e1⟩
        have x := e1.trans (Ext.drew w1)
        have d0 := x.cell f0
        have d1 := x.cell f1
        have d2 := x.cell f2
        have d3 := x.cell f3
        have d4 := x.cell f4
        go_wp2
        refine wp_region_xall (F := fun _ _ _ => True) (by kernel_rfl) (by kernel_rfl) (by kernel_rfl) ?_
        intro wf hwf
        repeat (first
          | (refine x_skip rfl ?_; simp only [Act.put, ev_tmp, List.setIfInBounds_toArray, List.set_cons_succ, List.set_cons_zero, List.getD_cons_succ, List.getD_cons_zero])
          | (refine x_mv rfl rfl rfl ?_; simp only [Act.put, ev_tmp, List.setIfInBounds_toArray, List.set_cons_succ, List.set_cons_zero, List.getD_cons_succ, List.getD_cons_zero])
          | (refine x_as rfl rfl rfl ?_; simp only [Act.put, ev_tmp, List.setIfInBounds_toArray, List.set_cons_succ, List.set_cons_zero, List.getD_cons_succ, List.getD_cons_zero])
          | (refine x_run rfl fun K hK w1 hw1 => ?_; have k0 := hw1.cell (d0); have k1 := hw1.cell (d1); have k2 := hw1.cell (d2); have k3 := hw1.cell (d3); have k4 := hw1.cell (d4); go_simp; refine hK _ ?_; clear hK K k0 k1 k2 k3 k4 hw1 w1))
        refine x_nil ?_
        go_wp2
        go_ret
        exact ⟨rfl, x.trans hwf⟩
    · have E1 := beq_f e1
      simp only [decide_true, e1, decide_true, decide_false, Bool.true_or, Bool.or_true, Bool.true_and, Bool.false_and, Bool.and_false] at hB2
      subst hB2
      clear e1 
      go_enter Try.func106, Try.ntmps106
      go_wp2_with (go_at_call 167; refine (l00In_any _ _ _ _).mono ?_; rintro e w1 ⟨rfl, rfl⟩; first | rw [K1.out] | rw [K2.out] | rw [K3.out])
      refine (C.out _ (Ext.refl _)).mono ?_
      rintro e w1 ⟨rfl, e1⟩
      have x := e1.trans (Ext.drew w1)
      have d0 := x.cell f0
      have d1 := x.cell f1
      have d2 := x.cell f2
      have d3 := x.cell f3
      have d4 := x.cell f4
      go_wp2
      refine wp_region_xall (F := fun _ _ _ => True) (by kernel_rfl) (by kernel_rfl) (by kernel_rfl) ?_
      intro wf hwf
      repeat (first
        | (refine x_skip rfl ?_; simp only [Act.put, ev_tmp, List.setIfInBounds_toArray, List.set_cons_succ, List.set_cons_zero, List.getD_cons_succ, List.getD_cons_zero])
        | (refine x_mv rfl rfl rfl ?_; simp only [Act.put, ev_tmp, List.setIfInBounds_toArray, List.set_cons_succ, List.set_cons_zero, List.getD_cons_succ, List.getD_cons_zero])
        | (refine x_as rfl rfl rfl ?_; simp only [Act.put, ev_tmp, List.setIfInBounds_toArray, List.set_cons_succ, List.set_cons_zero, List.getD_cons_succ, List.getD_cons_zero])
        | (refine x_run rfl fun K hK w1 hw1 => ?_; have k0 := hw1.cell (d0); have k1 := hw1.cell (d1); have k2 := hw1.cell (d2); have k3 := hw1.cell (d3); have k4 := hw1.cell (d4); go_simp; refine hK _ ?_; clear hK K k0 k1 k2 k3 k4 hw1 w1))
      refine x_nil ?_
      go_wp2
      go_ret
      exact ⟨rfl, x.trans hwf⟩
  have F0 := beq_f hk0
  by_cases hio : ¬ i = o
  · have F1 := beq_f hio
    have : B = false := by rw [hB2]; simp [hk0, hio]
    subst this
    clear hk0 hio hB2
    go_enter Try.func106, Try.ntmps106
    go_wp2_with (go_at_call 167; refine (l00In_any _ _ _ _).mono ?_; rintro e w1 ⟨rfl, rfl⟩; first | rw [K1.out] | rw [K2.out] | rw [K3.out])
    refine (C.out _ (Ext.refl _)).mono ?_
    rintro e w1 ⟨rfl, e1⟩
    have x := e1.trans (Ext.drew w1)
    have d0 := x.cell f0
    have d1 := x.cell f1
    have d2 := x.cell f2
    have d3 := x.cell f3
    have d4 := x.cell f4
    go_wp2
    refine wp_region_xall (F := fun _ _ _ => True) (by kernel_rfl) (by kernel_rfl) (by kernel_rfl) ?_
    intro wf hwf
    repeat (first
      | (refine x_skip rfl ?_; simp only [Act.put, ev_tmp, List.setIfInBounds_toArray, List.set_cons_succ, List.set_cons_zero, List.getD_cons_succ, List.getD_cons_zero])
      | (refine x_mv rfl rfl rfl ?_; simp only [Act.put, ev_tmp, List.setIfInBounds_toArray, List.set_cons_succ, List.set_cons_zero, List.getD_cons_succ, List.getD_cons_zero])
      | (refine x_as rfl rfl rfl ?_; simp only [Act.put, ev_tmp, List.setIfInBounds_toArray, List.set_cons_succ, List.set_cons_zero, List.getD_cons_succ, List.getD_cons_zero])
      | (refine x_run rfl fun K hK w1 hw1 => ?_; have k0 := hw1.cell (d0); have k1 := hw1.cell (d1); have k2 := hw1.cell (d2); have k3 := hw1.cell (d3); have k4 := hw1.cell (d4); go_simp; refine hK _ ?_; clear hK K k0 k1 k2 k3 k4 hw1 w1))
    refine x_nil ?_
    go_wp2
    go_ret
    exact ⟨rfl, x.trans hwf⟩
  have hio := Classical.not_not.1 hio
  have F1 := beq_t hio
  by_cases e1 : (nw : Int) = W
  · by_cases e2 : (nb : Int) = V
    all_goals
      have E1 := beq_t e1
      first | have E2 := beq_t e2 | have E2 := beq_f e2
      simp only [hio, e1, e2, decide_true, decide_false, Bool.true_or, Bool.or_true, Bool.true_and, Bool.and_true, Bool.and_false] at hB2
      subst hB2
      clear e1 e2 hio hk0
      go_enter Try.func106, Try.ntmps106
      go_wp2_with (go_at_call 167; refine (l00In_any _ _ _ _).mono ?_; rintro e w1 ⟨rfl, rfl⟩; first | rw [K1.out] | rw [K2.out] | rw [K3.out])
      refine (C.out _ (Ext.refl _)).mono ?_
      rintro e w1 ⟨rfl, e1⟩
      have x := e1.trans (Ext.drew w1)
      have d0 := x.cell f0
      have d1 := x.cell f1
      have d2 := x.cell f2
      have d3 := x.cell f3
      have d4 := x.cell f4
      go_wp2
      refine wp_region_xall (F := fun _ _ _ => True) (by kernel_rfl) (by kernel_rfl) (by kernel_rfl) ?_
      intro wf hwf
      repeat (first
        | (refine x_skip rfl ?_; simp only [Act.put, ev_tmp, List.setIfInBounds_toArray, List.set_cons_succ, List.set_cons_zero, List.getD_cons_succ, List.getD_cons_zero])
        | (refine x_mv rfl rfl rfl ?_; simp only [Act.put, ev_tmp, List.setIfInBounds_toArray, List.set_cons_succ, List.set_cons_zero, List.getD_cons_succ, List.getD_cons_zero])
        | (refine x_as rfl rfl rfl ?_; simp only [Act.put, ev_tmp, List.setIfInBounds_toArray, List.set_cons_succ, List.set_cons_zero, List.getD_cons_succ, List.getD_cons_zero])
        | (refine x_run rfl fun K hK w1 hw1 => ?_; have k0 := hw1.cell (d0); have k1 := hw1.cell (d1); have k2 := hw1.cell (d2); have k3 := hw1.cell (d3); have k4 := hw1.cell (d4); go_simp; refine hK _ ?_; clear hK K k0 k1 k2 k3 k4 hw1 w1))
      refine x_nil ?_
      go_wp2
      go_ret
      exact ⟨rfl, x.trans hwf⟩
  · have E1 := beq_f e1
    simp only [hio, e1, decide_true, decide_false, Bool.true_or, Bool.or_true, Bool.true_and, Bool.false_and, Bool.and_false] at hB2
    subst hB2
    clear e1 hio hk0
    go_enter Try.func106, Try.ntmps106
    go_wp2_with (go_at_call 167; refine (l00In_any _ _ _ _).mono ?_; rintro e w1 ⟨rfl, rfl⟩; first | rw [K1.out] | rw [K2.out] | rw [K3.out])
    refine (C.out _ (Ext.refl _)).mono ?_
    rintro e w1 ⟨rfl, e1⟩
    have x := e1.trans (Ext.drew w1)
    have d0 := x.cell f0
    have d1 := x.cell f1
    have d2 := x.cell f2
    have d3 := x.cell f3
    have d4 := x.cell f4
    go_wp2
    refine wp_region_xall (F := fun _ _ _ => True) (by kernel_rfl) (by kernel_rfl) (by kernel_rfl) ?_
    intro wf hwf
    repeat (first
      | (refine x_skip rfl ?_; simp only [Act.put, ev_tmp, List.setIfInBounds_toArray, List.set_cons_succ, List.set_cons_zero, List.getD_cons_succ, List.getD_cons_zero])
      | (refine x_mv rfl rfl rfl ?_; simp only [Act.put, ev_tmp, List.setIfInBounds_toArray, List.set_cons_succ, List.set_cons_zero, List.getD_cons_succ, List.getD_cons_zero])
      | (refine x_as rfl rfl rfl ?_; simp only [Act.put, ev_tmp, List.setIfInBounds_toArray, List.set_cons_succ, List.set_cons_zero, List.getD_cons_succ, List.getD_cons_zero])
      | (refine x_run rfl fun K hK w1 hw1 => ?_; have k0 := hw1.cell (d0); have k1 := hw1.cell (d1); have k2 := hw1.cell (d2); have k3 := hw1.cell (d3); have k4 := hw1.cell (d4); go_simp; refine hK _ ?_; clear hK K k0 k1 k2 k3 k4 hw1 w1))
    refine x_nil ?_
    go_wp2
    go_ret
    exact ⟨rfl, x.trans hwf⟩
end Go.Proofs.Ytnlhahlegedlaaa
